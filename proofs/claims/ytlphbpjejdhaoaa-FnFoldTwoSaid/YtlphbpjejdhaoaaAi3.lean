/- An abstract interpreter of the model's code, shown sound: code, calls, rules, drawn orders, laws. No condition. -/
import Derived.Test.YtlphbpjejdhaoaaAi2
import Derived.OrdersHeld
import Derived.ProofKit
import Derived.OpenShut
import Derived.ShutString
import Derived.ChangeOld
import Derived.SizedLaws
import Derived.Carry
set_option linter.unusedSimpArgs false
set_option linter.unusedVariables false

/-
  The abstract interpreter, part U: operations, all of them; regions.
-/
namespace Go.AI
open Go.RowKit

section
variable {P : Program} {G : Gh} {σ : St} {a : Act} {w : World} {o : Oper}

def callS (P : Program) (σ : St) (o : Oper) (b : Builtin) (xs : List Operand) (ts : List TypeId) : Option (St × List Pl) :=
  match b, xs, ts with
  | .append, [s, x], [t, tx] => match o.dst with
    | some d => match σ.deepM with
      | true => match appendM P σ t tx s x d with
        | some r => some r
        | Option.none => appendS P σ t tx s x d
      | false => appendS P σ t tx s x d
    | Option.none => Option.none
  | .len, [x], [t] => match lenS P σ t x with
    | some sv => putS σ o sv
    | Option.none => Option.none
  | .max, [x, y], _ => match maxS σ x y with
    | some sv => putS σ o sv
    | Option.none => Option.none
  | _, _, _ => Option.none

/-- One operation that is no call of a function. -/
def opS (P : Program) (σ : St) (o : Oper) : Option (St × List Pl) :=
  match o.op with
  | .assign x => match o.dst with
    | some d => assignS σ d (σ.rd x)
    | Option.none => Option.none
  | .alloc t => match o.dst with
    | some d => if d < σ.n then (match allocS P σ t d with
      | some σ' => some (σ', [.v d, .s d])
      | Option.none => Option.none) else Option.none
    | Option.none => Option.none
  | .box t x => match o.dst with
    | some d => if d < σ.n then (match boxS P σ x d with
      | some σ' => some (σ', [.v d, .s d])
      | Option.none => Option.none) else Option.none
    | Option.none => Option.none
  | .store t x y => match o.dst with
    | some _ => Option.none
    | Option.none => match σ.deepM with
      | true => match storeM P σ t x y with
        | some r => some r
        | Option.none => storeS P σ t x y
      | false => storeS P σ t x y
  | .makeSlice t x y => match o.dst with
    | some d => makeSliceS P σ t x y d
    | Option.none => Option.none
  | .buildSlice t len parts => match o.dst with
    | some d => match σ.deepM with
      | true => match buildSliceM P σ t len parts.toList d with
        | some r => some r
        | Option.none => buildSliceS P σ t len parts.toList d
      | false => buildSliceS P σ t len parts.toList d
    | Option.none => Option.none
  | .convert s t x => match convertS P σ s t x with
    | some sv => putS σ o sv
    | Option.none => match bytesS P σ s t x with
      | some sv => putS σ o sv
      | Option.none => Option.none
  | .slice t x lo hi mx => match mx with
    | Option.none => match sliceS P σ t x lo hi with
      | some sv => putS σ o sv
      | Option.none => Option.none
    | some _ => Option.none
  | .makeFunc fn first captured => match o.dst with
    | some d => makeFuncS P σ fn first.toList captured.toList d
    | Option.none => Option.none
  | .call c => match c.callee with
    | .builtin b => callS P σ o b c.args.toList c.argTypes.toList
    | _ => Option.none
  | _ => match rdS P σ o with
    | some sv => putS σ o sv
    | Option.none => Option.none

theorem call_eq {c : Call} {b : Builtin} {xs : List Operand} {ts : List TypeId} (hb : c.callee = .builtin b) (hx : c.args.toList = xs) (ht : c.argTypes.toList = ts) : c = { callee := .builtin b, args := xs.toArray, argTypes := ts.toArray } := by
  obtain ⟨callee, args, argTypes⟩ := c
  simp only at hb hx ht
  subst hb; subst hx; subst ht
  simp

theorem op_out (h : R G σ a w) {σ' : St} {t : List Pl} (hs : opS P σ o = some (σ', t)) : Out P G σ a w o σ' t := by
  have hrd : (match rdS P σ o with
    | some sv => putS σ o sv
    | Option.none => Option.none) = some (σ', t) → Out P G σ a w o σ' t := fun hs => by
    split at hs
    · next sv hsv => exact put_out h (rdS_gives h hsv) hs
    · cases hs
  unfold opS at hs
  split at hs
  · next x ho =>
    split at hs
    · next d hd => exact assign_out h (move_gives h (.inr ho)) hd hs
    · cases hs
  · next ty ho =>
    split at hs
    · next d hd =>
      split at hs
      · next hn =>
        split at hs
        · next σ1 ha =>
          simp only [Option.some.injEq, Prod.mk.injEq] at hs; obtain ⟨rfl, rfl⟩ := hs
          obtain ⟨v, G', w', h1, h2, h3, h4⟩ := alloc_step h ho hd hn ha
          exact ⟨_, G', w', h1, .inl ⟨v, rfl, h2⟩, h3, h4⟩
        · cases hs
      · cases hs
    · cases hs
  · next ty x ho =>
    split at hs
    · next d hd =>
      split at hs
      · next hn =>
        split at hs
        · next σ1 ha =>
          simp only [Option.some.injEq, Prod.mk.injEq] at hs; obtain ⟨rfl, rfl⟩ := hs
          obtain ⟨v, G', w', h1, h2, h3, h4⟩ := box_step h ho hd hn ha
          exact ⟨_, G', w', h1, .inl ⟨v, rfl, h2⟩, h3, h4⟩
        · cases hs
      · cases hs
    · cases hs
  · next ty x y ho =>
    split at hs
    · cases hs
    · next hd =>
      split at hs
      · split at hs
        · next r hr => cases hs; exact storeM_out h ho hd hr
        · exact store_out h ho hd hs
      · exact store_out h ho hd hs
  · next ty x y ho =>
    split at hs
    · next d hd => exact makeSlice_out h ho hd hs
    · cases hs
  · next ty len parts ho =>
    split at hs
    · next d hd =>
      split at hs
      · split at hs
        · next r hr => cases hs; exact buildSliceM_out h ho hd hr
        · exact buildSlice_out h ho hd hs
      · exact buildSlice_out h ho hd hs
    · cases hs
  · next s ty x ho =>
    split at hs
    · next sv hsv => exact put_out h (convert_gives h ho hsv) hs
    · split at hs
      · next sv hsv => exact put_out h (bytes_gives h ho hsv) hs
      · cases hs
  · next t x lo hi mx ho =>
    split at hs
    · split at hs
      · next sv hsv => exact put_out h (slice_gives h ho hsv) hs
      · cases hs
    · cases hs
  · next fn first captured ho =>
    split at hs
    · next d hd => exact makeFunc_out h ho hd hs
    · cases hs
  · next c ho =>
    split at hs
    · next b hb =>
      unfold callS at hs
      split at hs
      · next s x t1 tx hx ht =>
        split at hs
        · next d hd =>
          split at hs
          · split at hs
            · next r hr => cases hs; exact appendM_out h (by rw [ho, call_eq hb hx ht]) hd hr
            · exact append_out h (by rw [ho, call_eq hb hx ht]) hd hs
          · exact append_out h (by rw [ho, call_eq hb hx ht]) hd hs
        · cases hs
      · next x t1 hx ht =>
        split at hs
        · next sv hsv => exact put_out h (len_gives h (t := t1) (x := x) (by rw [ho, call_eq hb hx ht]) hsv) hs
        · cases hs
      · next x y hx =>
        split at hs
        · next sv hsv => exact put_out h (max_gives h (x := x) (y := y) (ts := c.argTypes) (by rw [ho, call_eq (ts := c.argTypes.toList) hb hx rfl]) hsv) hs
        · cases hs
      · cases hs
    · cases hs
  · exact hrd hs

/-! ### Guards -/
def gdV : Bool → Bool → Bool
  | true, b => b
  | false, b => !b

def guardV (want : Bool) : Value → Bool
  | .bool b => gdV want b
  | _ => false

def guardS (ops : Array Oper) (σ : St) (o : Oper) : Option Bool :=
  match o.guard with
  | Option.none => some true
  | some (j, want) => match (ops[j]?).bind (·.dst) with
    | some d => match σ.rd (.tmp d) with
      | .one (.lit v) => some (guardV want v)
      | _ => Option.none
    | Option.none => Option.none

theorem guard_spec (h : R G σ a w) {ops : Array Oper} {b : Bool} (hs : guardS ops σ o = some b) : Region.wanted o (yielded ops a.tmps) = b := by
  unfold guardS at hs
  split at hs
  · next hg => simp at hs; subst hs; simp [Region.wanted, hg]
  · next j want hg =>
    split at hs
    · next d hd =>
      split at hs
      · next b' hr =>
        simp only [Option.some.injEq] at hs; subst hs
        have hv := litOf h hr
        have hlt : d < a.tmps.size := by
          rw [h.size]
          simp only [St.rd] at hr
          split at hr
          · assumption
          · cases hr
        have : a.tmps[d]? = some b' := by
          simp only [Act.eval] at hv
          rw [Array.getD_eq_getD_getElem?] at hv
          rw [Array.getElem?_eq_getElem hlt] at hv ⊢
          simpa using hv
        simp only [Region.wanted, hg, yielded, hd, Option.bind_some, this]
        cases b' with
        | bool b => cases b <;> cases want <;> rfl
        | _ => rfl
      · cases hs
    · cases hs

/-- An operation that is not wanted. -/
def skipS (σ : St) (o : Oper) : St := match o.dst with
  | some d => if d < σ.n then σ.put d (.one (.lit undef)) else σ
  | Option.none => σ

theorem skip_spec (h : R G σ a w) : ∃ G', R G' (skipS σ o) (a.put o.dst undef) w ∧ Kp (o.dst.toList.map .s) G w G' w ∧ Fx σ (skipS σ o) G G' := by
  unfold skipS
  split
  · next d hd =>
    split
    · next hn =>
      obtain ⟨G', h1, h2, _, _, h3⟩ := h.putK hn (sv := .one (.lit undef)) (v := undef) tells_lit
      exact ⟨G', by rw [hd]; exact h1, by rw [hd]; exact h2, h3⟩
    · next hn =>
      have : a.put o.dst undef = a := by
        rw [hd]
        have : ¬ d < a.tmps.size := by rw [h.size]; exact hn
        simp [Act.put, Array.setIfInBounds, this]
      exact ⟨G, by rw [this]; exact h, (Kp.refl G w).mono (fun _ h => by cases h), Fx.refl σ G⟩
  · next hd => exact ⟨G, by rw [hd]; exact h, (Kp.refl G w).mono (fun _ h => by cases h), Fx.refl σ G⟩

end
end Go.AI

/-
  The abstract interpreter, part V: what is handed to a function: views and loans.
-/
namespace Go.AI
open Go.RowKit

def vbase : Nat := 100000

def idx : List Pl → Pl → Option Nat
  | [], _ => Option.none
  | q :: r, p => if q = p then some 0 else (idx r p).map (· + 1)

theorem idx_some : ∀ {X : List Pl} {p : Pl} {m : Nat}, idx X p = some m → X[m]? = some p
  | q :: r, p, m, h => by
    simp only [idx] at h
    split at h
    · next e => simp at h; subst h; simp [e]
    · simp only [Option.map_eq_some_iff] at h
      obtain ⟨m', h1, rfl⟩ := h
      simpa using idx_some h1

theorem idx_none : ∀ {X : List Pl} {p : Pl}, idx X p = Option.none ↔ p ∉ X
  | [], p => by simp [idx]
  | q :: r, p => by
    simp only [idx]
    split
    · next e => simp [e]
    · next e => simp [idx_none (X := r), Ne.symm e]

theorem idx_get : ∀ {X : List Pl}, X.Nodup → ∀ {m : Nat} {p : Pl}, X[m]? = some p → idx X p = some m
  | q :: r, hn, 0, p, h => by simp at h; simp [idx, h]
  | q :: r, hn, m + 1, p, h => by
    simp at h hn
    have : q ≠ p := fun e => hn.1 (e ▸ List.mem_of_getElem? h)
    simp [idx, this, idx_get hn.2 h]

section
variable {P : Program} {G : Gh} {σ : St} {a : Act} {w : World} {o : Oper}

/-- What is owned at a position, to those who may read it. -/
theorem R.ownRO (h : R G σ a w) {imm : Nat → Prop} (hi : ∀ b, G.imm b → imm b) {p : Pl} (ho : ∀ b π, G.own b = some (p, π) → imm b) {π : Path} {d : D} (hc : σ.cell p π = some d) (hs : d.solid = true) : RO imm w d (G.val p π) := by
  refine Loc.toRO (σ := σ) hi _ d p π (Nat.le_refl _) (fun ρ x hx => ?_) (fun b ρ hb => ho b _ hb)
  have hcx := cell_append hc hx
  refine ⟨h.loc p _ x hcx, ?_⟩
  cases ρ with
  | nil => simp [D.atU] at hx; subst hx; exact hs
  | cons ij ρ =>
    cases π with
    | nil => simp [St.cell] at hc
    | cons kl π =>
      cases π with
      | nil => exact h.deep p kl ij ρ x hcx
      | cons mn π => exact h.deep p kl mn (π ++ ij :: ρ) x hcx

def St.viewD (σ : St) : D → D
  | .bor p π n rg => match σ.rowsOf (.bor p π n rg) with
    | some rows => .sl false ((D.bor p π n rg).szOf σ) rows
    | Option.none => .dead
  | .addr p π i j n => if σ.okAddr p π i j n = true then match σ.rowAt p i π with
      | some row => if row.all (·.solid) = true then .raddr (row.drop j) else .dead
      | Option.none => .dead
    else .dead
  | d => d

theorem R.view (h : R G σ a w) {imm : Nat → Prop} (hi : ∀ b, G.imm b → imm b) {p : Pl} (ho : ∀ b π, G.own b = some (p, π) → imm b) {v : Value} {d : D} (hv : LocV G w σ v d)
    (hd : (∃ π n rg, d = .bor p π n rg) ∨ (∃ π i j n, d = .addr p π i j n)) : σ.viewD d = .dead ∨ (RO imm w (σ.viewD d) v ∧ ((∃ sz rows, σ.viewD d = .sl false sz rows) ∨ ∃ row, σ.viewD d = .raddr row)) := by
  rcases hd with ⟨π, n, rg, rfl⟩ | ⟨π, i, j, n, rfl⟩
  · simp only [St.viewD]
    cases hr : σ.rowsOf (.bor p π n rg) with
    | none => exact .inl rfl
    | some rows =>
      right
      refine ⟨?_, .inl ⟨_, _, rfl⟩⟩
      simp only [St.rowsOf] at hr
      split at hr
      · next hst =>
        split at hr
        · next sz r hcell =>
          have hvv := hv hst _ r hcell
          have hro := h.ownRO hi ho hcell rfl
          have hszo : (D.bor p π n rg).szOf σ = sz := by simp [D.szOf, hcell]
          rw [hszo]
          cases rg with
          | none =>
            simp at hr; subst hr
            have : rgval Option.none sz (G.val p π) = G.val p π := by
              obtain ⟨A, c, e, _⟩ := roslice hro
              rw [e]; rfl
            rw [this] at hvv
            rw [hvv]
            exact RO.flag hro
          | some lh =>
            obtain ⟨lo, hi'⟩ := lh
            simp only at hr
            split at hr
            · next hc =>
              simp only [Option.some.injEq] at hr; subst hr
              rw [hvv]
              exact RO.range hro hc.1 hc.2
            · cases hr
        · cases hr
      · cases hr
  · simp only [St.viewD]
    split
    · next hk =>
      obtain ⟨row, b, o', h1, h2, h3, h4, ⟨q, h5, _⟩, _⟩ := h.okAddr hk hv
      rw [h1]
      simp only
      split
      · next hs =>
        right
        refine ⟨?_, .inr ⟨_, rfl⟩⟩
        refine raddr_iff.2 ⟨b, o' + j, h3, ho b _ h5, fun l x hx => ?_⟩
        rw [List.getElem?_drop] at hx
        have hjl := (List.getElem?_eq_some_iff.1 hx).1
        refine ⟨_, by rw [Nat.add_assoc]; exact (h4 (j + l) hjl).1, ?_⟩
        exact h.ownRO hi ho (rowAt_cell h1 hx) (List.all_eq_true.1 hs x (List.mem_of_getElem? hx))
      · exact .inl rfl
    · exact .inl rfl

/-- A datum, as the function that is called sees it. -/
def St.argD (σ : St) (X : List Pl) (vw : Bool) : D → D
  | .bor p π n rg => match idx X p with
    | some m => if σ.stp p π = n then .bor (.v (vbase + m)) π 0 rg else .dead
    | Option.none => if vw = true then σ.viewD (.bor p π n rg) else .dead
  | .addr p π i j n => match idx X p with
    | some m => if σ.stp p π = n then .addr (.v (vbase + m)) π i j 0 else .dead
    | Option.none => if vw = true then σ.viewD (.addr p π i j n) else .dead
  | .sl true _ _ => .dead
  | d => d

def D.extD : D → D
  | .bor _ _ _ _ => .dead
  | .addr _ _ _ _ _ => .dead
  | d => d

def St.ext (σ : St) (X : List Pl) (e : Nat) : Option (Bool × List D) :=
  if e < vbase then Option.none else match X[e - vbase]? with
    | some (.v k) => match σ.vr k with
      | some (b, ds) => some (b, ds.map D.extD)
      | Option.none => Option.none
    | some (.s i) => match σ.sl i with
      | .one d => some (false, [d.extD])
      | .agg ds => some (false, ds.map D.extD)
      | _ => Option.none
    | Option.none => Option.none

def pst (svs : List SV) (E : Nat → Option (Bool × List D)) : St :=
  { n := svs.length, sl := fun i => svs[i]?.getD .none, vr := E, sa := fun _ => 0, sb := fun _ _ => 0, sc := fun _ _ => 0, tick := 1 }

def argSV (σ : St) (X : List Pl) (vw : Bool) : SV → SV
  | .one d => .one (σ.argD X vw d)
  | .agg ds => .agg (ds.map (σ.argD X vw))
  | .tup cs => .tup (cs.map fun c => (c.1, c.2.map (σ.argD X vw)))
  | .none => .none

def Gh.portIn (G : Gh) (X : List Pl) (vw : Bool) (f : Nat → Nat → Nat → Value) : Gh where
  val p π := match p with
    | .s i => match π with
      | [(k, j)] => f i k j
      | _ => undef
    | .v e => if e < vbase then undef else match X[e - vbase]? with
      | some q => G.val q π
      | Option.none => undef
  own b := match G.own b with
    | some (q, π) => match idx X q with
      | some m => some (.v (vbase + m), π)
      | Option.none => Option.none
    | Option.none => Option.none
  imm b := G.imm b ∨ (vw = true ∧ ∃ q π, G.own b = some (q, π) ∧ q ∉ X)
  blk e := if e < vbase then 0 else match X[e - vbase]? with
    | some (.v k) => G.blk k
    | _ => 0

theorem argSV_cell {X : List Pl} {vw : Bool} {sv : SV} {k j : Nat} {x : D} (hx : cellIn (argSV σ X vw sv).rows (k, j) = some x) : ∃ y, cellIn sv.rows (k, j) = some y ∧ x = σ.argD X vw y := by
  obtain ⟨row, h1, h2⟩ := cellIn_some.1 hx
  cases sv with
  | none => simp [argSV, SV.rows] at h1
  | one d =>
    cases k with
    | succ k => simp [argSV, SV.rows] at h1
    | zero =>
      simp [argSV, SV.rows] at h1; subst h1
      cases j with
      | succ j => simp at h2
      | zero => simp at h2; exact ⟨d, rfl, h2.symm⟩
  | agg ds =>
    cases k with
    | succ k => simp [argSV, SV.rows] at h1
    | zero =>
      simp [argSV, SV.rows] at h1; subst h1
      rw [List.getElem?_map, Option.map_eq_some_iff] at h2
      obtain ⟨y, h3, h4⟩ := h2
      exact ⟨y, cellIn_some.2 ⟨ds, rfl, h3⟩, h4.symm⟩
  | tup cs =>
    simp only [argSV, SV.rows, List.map_map, List.getElem?_map, Option.map_eq_some_iff] at h1
    obtain ⟨c, h3, h4⟩ := h1
    simp only [Function.comp_apply] at h4; subst h4
    rw [List.getElem?_map, Option.map_eq_some_iff] at h2
    obtain ⟨y, h5, h6⟩ := h2
    exact ⟨y, cellIn_some.2 ⟨c.2, by simp [SV.rows, h3], h5⟩, h6.symm⟩

theorem tvals_argSV {f : Nat → Nat → Value} (g : D → D) : ∀ (k : Nat) (cs : List (Bool × List D)), tvals f k (cs.map fun c => (c.1, c.2.map g)) = tvals f k cs
  | _, [] => rfl
  | k, (b, ds) :: r => by simp [tvals, tvals_argSV g (k + 1) r]

theorem argSV_rel {X : List Pl} {vw : Bool} {sv : SV} {f : Nat → Nat → Value} {v : Value} (h : SVrel f v sv) : SVrel f v (argSV σ X vw sv) := by
  cases sv with
  | none => trivial
  | one d => exact h
  | agg ds => simpa [argSV, SVrel] using h
  | tup cs =>
    simp only [argSV, SVrel] at h ⊢
    rw [tvals_argSV]; exact h

theorem extD_atU {d : D} : ∀ {ρ : Path} {x : D}, d.extD.atU ρ = some x → (ρ = [] ∧ x = d.extD) ∨ (ρ ≠ [] ∧ d.atU ρ = some x)
  | [], x, h => by simp [D.atU] at h; exact .inl ⟨rfl, h.symm⟩
  | ij :: ρ, x, h => by
    right
    refine ⟨by simp, ?_⟩
    cases d <;> simp_all [D.extD, D.atU]

theorem extD_or (d : D) : d.extD = .dead ∨ (d.extD = d ∧ (∀ q ρ n rg, d ≠ .bor q ρ n rg) ∧ ∀ q ρ i j n, d ≠ .addr q ρ i j n) := by
  cases d <;> simp [D.extD]

/-- The content of a place that is lent, as the function that is called sees it. -/
theorem ext_cell {X : List Pl} {e : Nat} {π : Path} {x : D} {svs : List SV} (h : (pst svs (σ.ext X)).cell (.v e) π = some x) :
    vbase ≤ e ∧ ∃ q, X[e - vbase]? = some q ∧ ((x = .dead ∧ ∃ ij, π = [ij]) ∨ (σ.cell q π = some x ∧ ((∃ ij, π = [ij]) → (∀ q ρ n rg, x ≠ .bor q ρ n rg) ∧ ∀ q ρ i j n, x ≠ .addr q ρ i j n))) := by
  cases π with
  | nil => simp [St.cell] at h
  | cons ij π =>
    simp only [St.cell, St.rows, pst, St.ext] at h
    by_cases he : e < vbase
    · simp [he, cellIn] at h
    · simp only [if_neg he] at h
      refine ⟨by omega, ?_⟩
      cases hX : X[e - vbase]? with
      | none => rw [hX] at h; simp [cellIn] at h
      | some q =>
        rw [hX] at h
        refine ⟨q, rfl, ?_⟩
        have key : ∀ ds : List D, σ.rows q = [ds] → (match cellIn [ds.map D.extD] ij with
            | some d => d.atU π
            | Option.none => Option.none) = some x → ((x = .dead ∧ ∃ ij', ij :: π = [ij']) ∨ (σ.cell q (ij :: π) = some x ∧ ((∃ ij', ij :: π = [ij']) → (∀ q ρ n rg, x ≠ .bor q ρ n rg) ∧ ∀ q ρ i j n, x ≠ .addr q ρ i j n))) := by
          intro ds hds hm
          obtain ⟨i, j⟩ := ij
          cases hc : cellIn [ds.map D.extD] (i, j) with
          | none => rw [hc] at hm; cases hm
          | some d =>
            rw [hc] at hm
            obtain ⟨row, h1, h2⟩ := cellIn_some.1 hc
            cases i with
            | succ i => simp at h1
            | zero =>
              simp at h1; subst h1
              rw [List.getElem?_map, Option.map_eq_some_iff] at h2
              obtain ⟨y, h3, rfl⟩ := h2
              have hcy : cellIn (σ.rows q) (0, j) = some y := by rw [hds]; exact cellIn_some.2 ⟨ds, rfl, h3⟩
              rcases extD_atU hm with ⟨rfl, rfl⟩ | ⟨hne, hx⟩
              · rcases extD_or y with e | ⟨e, e1, e2⟩
                · exact .inl ⟨e, _, rfl⟩
                · right
                  rw [e]
                  exact ⟨by simp [St.cell, hcy, D.atU], fun _ => ⟨e1, e2⟩⟩
              · right
                refine ⟨by simp [St.cell, hcy, hx], fun ⟨ij', e⟩ => ?_⟩
                simp only [List.cons.injEq] at e
                exact absurd e.2 hne
        cases q with
        | v k =>
          simp only at h
          cases hv : σ.vr k with
          | none => rw [hv] at h; simp [cellIn] at h
          | some bd =>
            obtain ⟨b, ds⟩ := bd
            rw [hv] at h
            exact key ds (by simp [St.rows, hv]) h
        | s i =>
          simp only at h
          cases hs : σ.sl i with
          | none => rw [hs] at h; simp [cellIn] at h
          | tup cs => rw [hs] at h; simp [cellIn] at h
          | one d => rw [hs] at h; exact key [d] (by simp [St.rows, hs, SV.rows]) h
          | agg ds => rw [hs] at h; exact key ds (by simp [St.rows, hs, SV.rows]) h

end
end Go.AI

/-
  The abstract interpreter, part W: the state in which a function is called.
-/
namespace Go.AI
open Go.RowKit

section
variable {P : Program} {G : Gh} {σ : St} {a : Act} {w : World} {o : Oper}

theorem LocOwn.port {G G' : Gh} {w w' : World} {p p' : Pl} {π π' : Path} {sz : Nat} {rows : List (List D)} (h : LocOwn G w p π sz rows)
    (hv : G'.val p' π' = G.val p π) (hv2 : ∀ ij, G'.val p' (π' ++ [ij]) = G.val p (π ++ [ij])) (ho : ∀ b, G.own b = some (p, π) → G'.own b = some (p', π'))
    (hw : ∀ b, G.own b = some (p, π) → SameAt w w' b) : LocOwn G' w' p' π' sz rows := by
  rcases h with ⟨h1, h2⟩ | ⟨b, o, c, h1, h2, h3, h4, h5⟩
  · exact .inl ⟨h1, by rw [hv]; exact h2⟩
  · refine .inr ⟨b, o, c, by rw [hv]; exact h1, h2, ho b h3, fun j hj => ?_, fun i row hr => ⟨(h5 i row hr).1, fun j hj => ?_⟩⟩
    · rw [(hw b h3 _).1, (hw b h3 _).2]; exact h4 j hj
    · rw [(hw b h3 _).1, hv2]; exact (h5 i row hr).2 j hj

theorem ext_real {X : List Pl} {e : Nat} {ds : List D} (h : σ.ext X e = some (true, ds)) : vbase ≤ e ∧ ∃ k ds0, X[e - vbase]? = some (.v k) ∧ σ.vr k = some (true, ds0) ∧ ds = ds0.map D.extD := by
  simp only [St.ext] at h
  split at h
  · cases h
  · next he =>
    refine ⟨by omega, ?_⟩
    split at h
    · next k hX =>
      split at h
      · next b ds0 hv =>
        simp only [Option.some.injEq, Prod.mk.injEq] at h
        obtain ⟨rfl, rfl⟩ := h
        exact ⟨k, ds0, hX, hv, rfl⟩
      · cases h
    · split at h <;> simp at h
    · cases h

theorem argD_notOwn {X : List Pl} {vw : Bool} (d : D) : (σ.argD X vw d).isOwn = false := by
  cases d with
  | sl u sz rows => cases u <;> rfl
  | bor p π n rg =>
    simp only [St.argD]
    split
    · split <;> rfl
    · split
      · simp only [St.viewD]; split <;> rfl
      · rfl
  | addr p π i j n =>
    simp only [St.argD]
    split
    · split <;> rfl
    · split
      · simp only [St.viewD]
        split
        · split
          · split <;> rfl
          · rfl
        · rfl
      · rfl
  | _ => rfl

theorem portIn_val {X : List Pl} {vw : Bool} {f : Nat → Nat → Nat → Value} {m : Nat} {q : Pl} (hm : X[m]? = some q) (π : Path) : (G.portIn X vw f).val (.v (vbase + m)) π = G.val q π := by
  simp only [Gh.portIn]
  rw [if_neg (by omega), Nat.add_sub_cancel_left, hm]

theorem argD_loc (h : R G σ a w) {X : List Pl} (hX : X.Nodup) {vw : Bool} {f : Nat → Nat → Nat → Value} {svs : List SV} {v : Value} {d : D} (hv : LocV G w σ v d) :
    LocV (G.portIn X vw f) w (pst svs (σ.ext X)) v (σ.argD X vw d) ∧ (σ.argD X vw d).refLt 1 := by
  have hi : ∀ b, G.imm b → (G.portIn X vw f).imm b := fun b hb => .inl hb
  have hclosed : ∀ d', RO (G.portIn X vw f).imm w d' v → ((∃ sz rows, d' = .sl false sz rows) ∨ ∃ row, d' = .raddr row) → LocV (G.portIn X vw f) w (pst svs (σ.ext X)) v d' ∧ d'.refLt 1 := by
    rintro d' hd (⟨sz, rows, rfl⟩ | ⟨row, rfl⟩)
    · exact ⟨hd, trivial⟩
    · exact ⟨hd, trivial⟩
  cases d with
  | lit u => exact ⟨RO.mono hv hi (fun b _ => SameAt.refl w b), trivial⟩
  | nil => exact ⟨RO.mono hv hi (fun b _ => SameAt.refl w b), trivial⟩
  | raddr row => exact ⟨RO.mono hv hi (fun b _ => SameAt.refl w b), trivial⟩
  | clo g caps => exact ⟨RO.mono hv hi (fun b _ => SameAt.refl w b), trivial⟩
  | dead => exact ⟨trivial, trivial⟩
  | sl u sz rows => cases u with
    | true => exact hv.elim
    | false => exact ⟨RO.mono (show RO G.imm w _ _ from hv) hi (fun b _ => SameAt.refl w b), trivial⟩
  | bor p π n rg =>
    simp only [St.argD]
    cases hix : idx X p with
    | some m =>
      have hm := idx_some hix
      simp only
      split
      · next hst =>
        refine ⟨fun _ sz rows hc => ?_, Nat.one_pos⟩
        obtain ⟨_, q, hq, hx⟩ := ext_cell hc
        rw [Nat.add_sub_cancel_left, hm] at hq
        simp only [Option.some.injEq] at hq; subst hq
        rw [portIn_val hm]
        exact hv hst sz rows ((hx.resolve_left (fun e => by cases e.1)).1)
      · exact ⟨trivial, trivial⟩
    | none =>
      simp only
      split
      · next hvw =>
        have hno := idx_none.1 hix
        rcases h.view (imm := (G.portIn X vw f).imm) hi (p := p) (fun b ρ hb => .inr ⟨hvw, p, ρ, hb, hno⟩) hv (.inl ⟨π, n, rg, rfl⟩) with e | ⟨h1, h2⟩
        · rw [e]; exact ⟨trivial, trivial⟩
        · exact hclosed _ h1 h2
      · exact ⟨trivial, trivial⟩
  | addr p π i j n =>
    simp only [St.argD]
    cases hix : idx X p with
    | some m =>
      have hm := idx_some hix
      simp only
      split
      · next hst =>
        refine ⟨fun _ ad hA => hv hst ad ?_, Nat.one_pos⟩
        cases π with
        | nil =>
          obtain ⟨k, ds, e, hk, rfl, rfl⟩ := hA
          cases e
          obtain ⟨_, k', ds0, h1, h2, h3⟩ := ext_real (show σ.ext X (vbase + m) = some (true, ds) from hk)
          rw [Nat.add_sub_cancel_left, hm] at h1
          simp only [Option.some.injEq] at h1; subst h1
          refine ⟨k', ds0, rfl, h2, rfl, ?_⟩
          simp only [Gh.portIn]
          rw [if_neg (by omega), Nat.add_sub_cancel_left, hm]
        | cons ij π =>
          obtain ⟨sz, rows, b, o', n', c, h1, h2, h3⟩ := hA
          obtain ⟨_, q, hq, hx⟩ := ext_cell h1
          rw [Nat.add_sub_cancel_left, hm] at hq
          simp only [Option.some.injEq] at hq; subst hq
          rw [portIn_val hm] at h2
          exact ⟨sz, rows, b, o', n', c, (hx.resolve_left (fun e => by cases e.1)).1, h2, h3⟩
      · exact ⟨trivial, trivial⟩
    | none =>
      simp only
      split
      · next hvw =>
        have hno := idx_none.1 hix
        rcases h.view (imm := (G.portIn X vw f).imm) hi (p := p) (fun b ρ hb => .inr ⟨hvw, p, ρ, hb, hno⟩) hv (.inr ⟨π, i, j, n, rfl⟩) with e | ⟨h1, h2⟩
        · rw [e]; exact ⟨trivial, trivial⟩
        · exact hclosed _ h1 h2
      · exact ⟨trivial, trivial⟩

theorem pst_slot {svs : List SV} {E : Nat → Option (Bool × List D)} {i : Nat} {π : Path} {x : D} (h : (pst svs E).cell (.s i) π = some x) : ∃ sv ij ρ y, svs[i]? = some sv ∧ π = ij :: ρ ∧ cellIn sv.rows ij = some y ∧ y.atU ρ = some x := by
  cases π with
  | nil => simp [St.cell] at h
  | cons ij ρ =>
    simp only [St.cell, St.rows, pst] at h
    cases hs : svs[i]? with
    | none => rw [hs] at h; simp [SV.rows, cellIn] at h
    | some sv =>
      rw [hs] at h
      simp only [Option.getD_some] at h
      cases hc : cellIn sv.rows ij with
      | none => rw [hc] at h; cases h
      | some y => rw [hc] at h; exact ⟨sv, ij, ρ, y, rfl, rfl, hc, h⟩

/-- THE STATE IN WHICH A FUNCTION IS CALLED. -/
theorem R.portIn (h : R G σ a w) {X : List Pl} (hX : X.Nodup) (vw : Bool) {svs : List SV} {vs : List Value} (hl : vs.length = svs.length)
    (ht : ∀ (i : Nat) sv, svs[i]? = some sv → ∃ v, vs[i]? = some v ∧ Tells G w σ sv v) :
    ∃ f, R (G.portIn X vw f) (pst (svs.map (argSV σ X vw)) (σ.ext X)) { tmps := vs.toArray, defers := [] } w := by
  classical
  have hch : ∀ i : Nat, ∃ f : Nat → Nat → Value, ∀ sv : SV, svs[i]? = some sv → ∃ v : Value, vs[i]? = some v ∧ SVrel f v sv ∧ ∀ k j x, cellIn sv.rows (k, j) = some x → LocV G w σ (f k j) x := by
    intro i
    cases hs : svs[i]? with
    | none => exact ⟨fun _ _ => undef, fun sv e => by cases e⟩
    | some sv =>
      obtain ⟨v, h1, f, h2, h3⟩ := ht i sv hs
      exact ⟨f, fun sv' e => by cases e; exact ⟨v, h1, h2, fun k j x hx => (h3 k j x hx).1⟩⟩
  obtain ⟨f, hf⟩ := Classical.axiomOfChoice hch
  have hslotcell : ∀ {i π x}, (pst (svs.map (argSV σ X vw)) (σ.ext X)).cell (.s i) π = some x → ∃ k j y, π = [(k, j)] ∧ x = σ.argD X vw y ∧ LocV G w σ (f i k j) y := by
    intro i π x hx
    obtain ⟨sv', ⟨k, j⟩, ρ, y', h1, rfl, h2, h3⟩ := pst_slot hx
    rw [List.getElem?_map, Option.map_eq_some_iff] at h1
    obtain ⟨sv, hs, rfl⟩ := h1
    obtain ⟨y, h4, rfl⟩ := argSV_cell h2
    have hρ : ρ = [] := by
      cases ρ with
      | nil => rfl
      | cons ij ρ => obtain ⟨sz, rows, e⟩ := atU_cons h3; have := argD_notOwn (σ := σ) (X := X) (vw := vw) y; rw [e] at this; simp [D.isOwn] at this
    subst hρ
    simp [D.atU] at h3
    obtain ⟨v, _, _, h5⟩ := hf i sv hs
    exact ⟨k, j, y, rfl, h3.symm, h5 k j y h4⟩
  have hi : ∀ b, G.imm b → (G.portIn X vw f).imm b := fun b hb => .inl hb
  refine ⟨f, ?_, rfl, fun i hi' => ?_, fun k ds hk => ?_, fun p π d hd => ?_, fun p ij kl ρ d hd => ?_, fun b hb => ?_, fun b hb => ?_, fun b q hb => ?_, fun _ => Nat.one_pos, fun _ _ => Nat.one_pos, fun _ _ => Nat.one_pos, fun p π q ρ n rg hd => ?_, fun p π q ρ i j n hd => ?_⟩
  · simp [pst, hl]
  · simp only [pst, List.length_map] at hi'
    obtain ⟨v, h1, h2, _⟩ := hf i svs[i] (List.getElem?_eq_getElem hi')
    have e1 : (pst (svs.map (argSV σ X vw)) (σ.ext X)).sl i = argSV σ X vw svs[i] := by simp [pst, hi']
    have e2 : vs.toArray.getD i undef = v := by simp [Array.getD_eq_getD_getElem?, h1]
    rw [e1, e2]
    exact argSV_rel h2
  · obtain ⟨he, k', ds0, h1, h2, rfl⟩ := ext_real (show σ.ext X k = some (true, ds) from hk)
    obtain ⟨g1, g2, g3⟩ := h.vars k' ds0 h2
    have hb : (G.portIn X vw f).blk k = G.blk k' := by simp only [Gh.portIn]; rw [if_neg (by omega), h1]
    rw [hb]
    refine ⟨?_, by simpa using g2, fun j hj => ?_⟩
    · simp only [Gh.portIn, g1, idx_get hX h1]
      rw [show vbase + (k - vbase) = k by omega]
    · rw [g3 j (by simpa using hj)]
      have := portIn_val (G := G) (vw := vw) (f := f) h1 [(0, j)]
      rw [show vbase + (k - vbase) = k by omega] at this
      rw [this]
  · cases p with
    | s i =>
      obtain ⟨k, j, y, rfl, rfl, h1⟩ := hslotcell hd
      exact Loc.ofV (argD_loc h hX h1).1
    | v e =>
      obtain ⟨he, q, hq, hx⟩ := ext_cell hd
      have hval : ∀ ρ, (G.portIn X vw f).val (.v e) ρ = G.val q ρ := fun ρ => by
        have := portIn_val (G := G) (vw := vw) (f := f) hq ρ
        rwa [show vbase + (e - vbase) = e by omega] at this
      rcases hx with ⟨rfl, _⟩ | ⟨hc, hnb⟩
      · trivial
      · have hl := h.loc q π d hc
        by_cases ho : d.isOwn = true
        · cases d with
          | sl u sz rows =>
            cases u with
            | false => simp [D.isOwn] at ho
            | true =>
              refine LocOwn.port hl (hval π) (fun ij => hval _) (fun b hb => ?_) (fun b _ => SameAt.refl w b)
              simp only [Gh.portIn, hb, idx_get hX hq]
              rw [show vbase + (e - vbase) = e by omega]
          | _ => simp [D.isOwn] at ho
        · refine Loc.ofV ?_
          rw [hval]
          have hv := hl.toV (by simpa using ho)
          have hbor : (∀ q ρ n rg, d ≠ .bor q ρ n rg) ∧ ∀ q ρ i j n, d ≠ .addr q ρ i j n := by
            cases π with
            | nil => simp [St.cell] at hc
            | cons ij π =>
              cases π with
              | nil => exact hnb ⟨ij, rfl⟩
              | cons kl π =>
                have := h.deep q ij kl π d hc
                exact ⟨fun _ _ _ _ e => (by rw [e] at this; cases this), fun _ _ _ _ _ e => (by rw [e] at this; cases this)⟩
          cases d with
          | lit u => exact RO.mono hv hi (fun b _ => SameAt.refl w b)
          | nil => exact RO.mono hv hi (fun b _ => SameAt.refl w b)
          | raddr row => exact RO.mono hv hi (fun b _ => SameAt.refl w b)
          | clo g caps => exact RO.mono hv hi (fun b _ => SameAt.refl w b)
          | dead => trivial
          | sl u sz rows => cases u with
            | true => simp [D.isOwn] at ho
            | false => exact RO.mono (show RO G.imm w _ _ from hv) hi (fun b _ => SameAt.refl w b)
          | bor q ρ n rg => exact absurd rfl (hbor.1 q ρ n rg)
          | addr q ρ i j n => exact absurd rfl (hbor.2 q ρ i j n)
  · cases p with
    | s i => obtain ⟨k, j, y, e, _⟩ := hslotcell hd; simp at e
    | v e =>
      obtain ⟨he, q, hq, hx⟩ := ext_cell hd
      rcases hx with ⟨_, _, e⟩ | ⟨hc, hnb⟩
      · simp at e
      · exact h.deep q ij kl ρ d hc
  · rcases hb with hb | ⟨_, q, π, hb, hq⟩
    · simp only [Gh.portIn, h.immOwn b hb]
    · simp only [Gh.portIn, hb, idx_none.2 hq]
  · rcases hb with hb | ⟨_, q, π, hb, hq⟩
    · exact h.immLt b hb
    · exact h.ownLt b _ hb
  · simp only [Gh.portIn] at hb
    cases ho : G.own b with
    | none => rw [ho] at hb; cases hb
    | some xp => exact h.ownLt b _ ho
  · cases p with
    | s i => obtain ⟨k, j, y, _, e, h1⟩ := hslotcell hd; have := (argD_loc (f := f) (svs := svs) (vw := vw) h hX h1).2; rw [← e] at this; exact this
    | v e =>
      obtain ⟨he, q', hq, hx⟩ := ext_cell hd
      rcases hx with ⟨e, _⟩ | ⟨hc, hnb⟩
      · cases e
      · exfalso
        cases π with
        | nil => simp [St.cell] at hc
        | cons ij π =>
          cases π with
          | nil => exact (hnb ⟨ij, rfl⟩).1 _ _ _ _ rfl
          | cons kl π => have := h.deep q' ij kl π _ hc; cases this
  · cases p with
    | s i => obtain ⟨k, j, y, _, e, h1⟩ := hslotcell hd; have := (argD_loc (f := f) (svs := svs) (vw := vw) h hX h1).2; rw [← e] at this; exact this
    | v e =>
      obtain ⟨he, q', hq, hx⟩ := ext_cell hd
      rcases hx with ⟨e, _⟩ | ⟨hc, hnb⟩
      · cases e
      · exfalso
        cases π with
        | nil => simp [St.cell] at hc
        | cons ij π =>
          cases π with
          | nil => exact (hnb ⟨ij, rfl⟩).2 _ _ _ _ _ rfl
          | cons kl π => have := h.deep q' ij kl π _ hc; cases this

end
end Go.AI

/-
  The abstract interpreter, part X: behind a call.
-/
namespace Go.AI
open Go.RowKit

/-- What a whole call leaves as it was. -/
structure Kf (G : Gh) (w : World) (G' : Gh) (w' : World) : Prop where
  os : w'.os = w.os
  tape : w'.tape = w.tape
  output : w'.output = w.output
  size : w.heap.size ≤ w'.heap.size
  free : ∀ b, b < w.heap.size → G.own b = Option.none → w'.heap[b]? = w.heap[b]? ∧ G'.own b = Option.none
  imm : ∀ b, G.imm b → G'.imm b
  immB : ∀ b, G'.imm b → G.imm b ∨ w.heap.size ≤ b ∨ (b < w.heap.size ∧ ∃ q, G.own b = some q)

theorem Kp.toKf {t : List Pl} {G G' : Gh} {w w' : World} (h : Kp t G w G' w') : Kf G w G' w' :=
  ⟨h.os, h.tape, h.output, h.size, h.free, h.imm, fun b hb => by
    rcases Nat.lt_or_ge b w.heap.size with hlt | hge
    · rcases h.immB b hb with h1 | h1 | ⟨p, π, _, h1⟩
      · exact .inl h1
      · exact .inr (.inl h1)
      · exact .inr (.inr ⟨hlt, _, h1⟩)
    · exact .inr (.inl hge)⟩

theorem Kf.refl (G : Gh) (w : World) : Kf G w G w := (Kp.refl G w).toKf

theorem Kf.trans {G G' G'' : Gh} {w w' w'' : World} (h : Kf G w G' w') (k : Kf G' w' G'' w'') : Kf G w G'' w'' := by
  refine ⟨k.os.trans h.os, k.tape.trans h.tape, k.output.trans h.output, Nat.le_trans h.size k.size, fun b hb h0 => ?_, fun b hb => k.imm b (h.imm b hb), fun b hb => ?_⟩
  · obtain ⟨h1, h2⟩ := h.free b hb h0
    obtain ⟨h3, h4⟩ := k.free b (Nat.lt_of_lt_of_le hb h.size) h2
    exact ⟨h3.trans h1, h4⟩
  · rcases Nat.lt_or_ge b w.heap.size with hlt | hge
    · rcases k.immB b hb with h1 | h1 | ⟨_, q, h1⟩
      · exact h.immB b h1
      · exact .inr (.inl (Nat.le_trans h.size h1))
      · cases h0 : G.own b with
        | none => have := (h.free b hlt h0).2; rw [this] at h1; cases h1
        | some q' => exact .inr (.inr ⟨hlt, q', rfl⟩)
    · exact .inr (.inl hge)

def FxE (E E' : Nat → Option (Bool × List D)) (G G' : Gh) : Prop :=
  ∀ e, vbase ≤ e → G'.blk e = G.blk e ∧ ∀ ds', E' e = some (false, ds') → (∃ ds, E e = some (false, ds)) ∧ ∀ kj, G'.val (.v e) [kj] = G.val (.v e) [kj]

def ACpost (G : Gh) (w : World) (E : Nat → Option (Bool × List D)) (Q : SV → (Nat → Option (Bool × List D)) → Prop) (e : Ending) (w' : World) : Prop :=
  match e with
  | .returned v => ∃ sv E' G', Q sv E' ∧ R G' (pst [sv] E') { tmps := #[v], defers := [] } w' ∧ Kf G w G' w' ∧ FxE E E' G G'
  | _ => False

/-- WHAT A FUNCTION DOES: called on such arguments, and with such places on loan, it returns something of which Q holds. -/
def AC (P : Program) (f : FuncId) (args : List SV) (E : Nat → Option (Bool × List D)) (Q : SV → (Nat → Option (Bool × List D)) → Prop) : Prop :=
  ∀ G (vs : List Value) w, vs.length = args.length → R G (pst args E) { tmps := vs.toArray, defers := [] } w → Calls P f vs.toArray w (ACpost G w E Q)

theorem AC.mono {P : Program} {f : FuncId} {args : List SV} {E : Nat → Option (Bool × List D)} {Q Q' : SV → (Nat → Option (Bool × List D)) → Prop} (h : AC P f args E Q) (hq : ∀ sv E', Q sv E' → Q' sv E') : AC P f args E Q' :=
  fun G vs w hl hR => Calls.mono (h G vs w hl hR) fun e w' he => by
    cases e with
    | returned v => obtain ⟨sv, E', G', h1, h2⟩ := he; exact ⟨sv, E', G', hq _ _ h1, h2⟩
    | _ => exact he

/-- Nothing in it is anybody else's. -/
def D.Fresh (d : D) : Prop := ∀ ρ x, d.atU ρ = some x → match x with
  | .lit _ | .nil | .sl true _ _ | .dead => True
  | _ => False

def SV.Fresh : SV → Prop
  | .one d => d.Fresh
  | .agg ds => ∀ d ∈ ds, d.Fresh
  | .tup cs => ∀ c ∈ cs, ∀ d ∈ c.2, d.Fresh
  | .none => True

@[simp] theorem fresh_lit {v : Value} : (D.lit v).Fresh := fun ρ x hx => by
  cases ρ with
  | nil => simp [D.atU] at hx; subst hx; trivial
  | cons ij ρ => simp [D.atU] at hx
@[simp] theorem fresh_nil : D.nil.Fresh := fun ρ x hx => by
  cases ρ with
  | nil => simp [D.atU] at hx; subst hx; trivial
  | cons ij ρ => simp [D.atU] at hx
@[simp] theorem fresh_dead : D.dead.Fresh := fun ρ x hx => by
  cases ρ with
  | nil => simp [D.atU] at hx; subst hx; trivial
  | cons ij ρ => simp [D.atU] at hx
@[simp] theorem fresh_sl {sz : Nat} {rows : List (List D)} : (D.sl true sz rows).Fresh ↔ ∀ row ∈ rows, ∀ d ∈ row, d.Fresh := by
  constructor
  · intro h row hr d hd ρ x hx
    obtain ⟨i, hi⟩ := List.getElem?_of_mem hr
    obtain ⟨j, hj⟩ := List.getElem?_of_mem hd
    exact h ((i, j) :: ρ) x (by simp [D.atU, cellIn_some.2 ⟨row, hi, hj⟩, hx])
  · intro h ρ x hx
    cases ρ with
    | nil => simp [D.atU] at hx; subst hx; trivial
    | cons ij ρ =>
      simp only [D.atU] at hx
      cases hc : cellIn rows ij with
      | none => rw [hc] at hx; cases hx
      | some d =>
        rw [hc] at hx
        obtain ⟨row, h1, h2⟩ := cellIn_some.1 (show cellIn rows (ij.1, ij.2) = some d from hc)
        exact h row (List.mem_of_getElem? h1) d (List.mem_of_getElem? h2) ρ x hx

theorem SV.Fresh.cell {sv : SV} (h : sv.Fresh) {ij : Nat × Nat} {d : D} (hc : cellIn sv.rows ij = some d) : d.Fresh := by
  obtain ⟨row, h1, h2⟩ := cellIn_some.1 (show cellIn sv.rows (ij.1, ij.2) = some d from hc)
  have hr := List.mem_of_getElem? h1
  have hd := List.mem_of_getElem? h2
  cases sv with
  | none => simp [SV.rows] at hr
  | one d' => simp [SV.rows] at hr; subst hr; simp at hd; subst hd; exact h
  | agg ds => simp [SV.rows] at hr; subst hr; exact h d hd
  | tup cs =>
    obtain ⟨c, hc1, hc2⟩ := List.mem_map.1 (show row ∈ cs.map (·.2) from hr)
    exact h c hc1 d (hc2 ▸ hd)

def SV.map (g : D → D) : SV → SV
  | .one d => .one (g d)
  | .agg ds => .agg (ds.map g)
  | .tup cs => .tup (cs.map fun c => (c.1, c.2.map g))
  | .none => .none

theorem SV.map_cell {g : D → D} {sv : SV} {ij : Nat × Nat} {x : D} (hx : cellIn (sv.map g).rows ij = some x) : ∃ y, cellIn sv.rows ij = some y ∧ x = g y := by
  obtain ⟨k, j⟩ := ij
  obtain ⟨row, h1, h2⟩ := cellIn_some.1 hx
  cases sv with
  | none => simp [SV.map, SV.rows] at h1
  | one d =>
    cases k with
    | succ k => simp [SV.map, SV.rows] at h1
    | zero =>
      simp [SV.map, SV.rows] at h1; subst h1
      cases j with
      | succ j => simp at h2
      | zero => simp at h2; exact ⟨d, rfl, h2.symm⟩
  | agg ds =>
    cases k with
    | succ k => simp [SV.map, SV.rows] at h1
    | zero =>
      simp [SV.map, SV.rows] at h1; subst h1
      rw [List.getElem?_map, Option.map_eq_some_iff] at h2
      obtain ⟨y, h3, h4⟩ := h2
      exact ⟨y, cellIn_some.2 ⟨ds, rfl, h3⟩, h4.symm⟩
  | tup cs =>
    simp only [SV.map, SV.rows, List.map_map, List.getElem?_map, Option.map_eq_some_iff] at h1
    obtain ⟨c, h3, h4⟩ := h1
    simp only [Function.comp_apply] at h4; subst h4
    rw [List.getElem?_map, Option.map_eq_some_iff] at h2
    obtain ⟨y, h5, h6⟩ := h2
    exact ⟨y, cellIn_some.2 ⟨c.2, by simp [SV.rows, h3], h5⟩, h6.symm⟩

theorem SV.map_rel {g : D → D} {sv : SV} {f : Nat → Nat → Value} {v : Value} (h : SVrel f v sv) : SVrel f v (sv.map g) := by
  cases sv with
  | none => trivial
  | one d => exact h
  | agg ds => simpa [SV.map, SVrel] using h
  | tup cs =>
    simp only [SV.map, SVrel] at h ⊢
    rw [tvals_argSV]; exact h

def isD : Option Nat → Pl → Bool
  | some i, .s i' => i' == i
  | _, _ => false

def afterSl (old : SV) (e : Option (Bool × List D)) : SV :=
  match old, e with
  | .one _, some (false, [x]) => .one x.extD
  | .agg ds, some (false, ds') => if ds'.length = ds.length then .agg (ds'.map D.extD) else .none
  | _, _ => .none

/-- The state behind a call. -/
def St.after (σ : St) (X : List Pl) (d : Option Nat) (sv : SV) (E' : Nat → Option (Bool × List D)) : St where
  n := σ.n
  sl i := if d = some i then sv.map D.extD else match idx X (.s i) with
    | some m => afterSl (σ.sl i) (E' (vbase + m))
    | Option.none => σ.sl i
  vr k := match idx X (.v k) with
    | some m => match σ.vr k, E' (vbase + m) with
      | some (b, _), some (b', ds') => if b = b' then some (b, ds'.map D.extD) else Option.none
      | _, _ => Option.none
    | Option.none => σ.vr k
  sa := σ.sa
  sb q ij := if (idx X q).isSome || isD d q then σ.tick else σ.sb q ij
  sc q ij := if (idx X q).isSome || isD d q then σ.tick else σ.sc q ij
  tick := σ.tick + 1

def D.Nb (x : D) : Prop := (∀ q ρ n rg, x ≠ .bor q ρ n rg) ∧ ∀ q ρ i j n, x ≠ .addr q ρ i j n

/-- A cell of what came back. -/
theorem after_cell {σ : St} {X : List Pl} {d : Option Nat} {sv : SV} {E' : Nat → Option (Bool × List D)} {p : Pl} {π : Path} {x : D} (h : (σ.after X d sv E').cell p π = some x) :
    (isD d p = true ∧ ((x = .dead ∧ ∃ ij, π = [ij]) ∨ ((pst [sv] E').cell (.s 0) π = some x ∧ ((∃ ij, π = [ij]) → x.Nb)))) ∨
    (isD d p = false ∧ ∃ m, idx X p = some m ∧ ((x = .dead ∧ ∃ ij, π = [ij]) ∨ ((pst [sv] E').cell (.v (vbase + m)) π = some x ∧ ((∃ ij, π = [ij]) → x.Nb)))) ∨
    (isD d p = false ∧ idx X p = Option.none ∧ σ.cell p π = some x) := by
  cases π with
  | nil => simp [St.cell] at h
  | cons ij π =>
    have key : ∀ {rows : List (List D)} {q : Pl}, (∀ y, cellIn ((σ.after X d sv E').rows p) ij = some y → ∃ z, cellIn ((pst [sv] E').rows q) ij = some z ∧ y = z.extD) →
        ((x = .dead ∧ ∃ ij', ij :: π = [ij']) ∨ ((pst [sv] E').cell q (ij :: π) = some x ∧ ((∃ ij', ij :: π = [ij']) → x.Nb))) := by
      intro rows q hk
      simp only [St.cell] at h ⊢
      cases hc : cellIn ((σ.after X d sv E').rows p) ij with
      | none => rw [hc] at h; cases h
      | some y =>
        rw [hc] at h
        obtain ⟨z, hz, rfl⟩ := hk y hc
        rw [hz]
        rcases extD_atU h with ⟨rfl, e⟩ | ⟨hne, e⟩
        · rcases extD_or z with e' | ⟨e', hn⟩
          · left; exact ⟨e.trans e', ij, rfl⟩
          · right; rw [e, e']; exact ⟨rfl, fun _ => hn⟩
        · exact .inr ⟨e, fun ⟨ij', e'⟩ => by simp only [List.cons.injEq] at e'; exact absurd e'.2 hne⟩
    have maprows : ∀ {ds : List D} {y : D}, cellIn [ds.map D.extD] ij = some y → ∃ z, cellIn [ds] ij = some z ∧ y = z.extD := by
      intro ds y hy
      obtain ⟨i, j⟩ := ij
      obtain ⟨row, h1, h2⟩ := cellIn_some.1 hy
      cases i with
      | succ i => simp at h1
      | zero =>
        simp at h1; subst h1
        rw [List.getElem?_map, Option.map_eq_some_iff] at h2
        obtain ⟨z, h3, h4⟩ := h2
        exact ⟨z, cellIn_some.2 ⟨ds, rfl, h3⟩, h4.symm⟩
    have hempty : ∀ y, cellIn ([] : List (List D)) ij = some y → False := fun y hy => by simp [cellIn] at hy
    by_cases hd : isD d p = true
    · left
      refine ⟨hd, key (rows := []) fun y hy => ?_⟩
      cases p with
      | v k => cases d <;> simp [isD] at hd
      | s i =>
        cases d with
        | none => simp [isD] at hd
        | some d =>
          simp [isD] at hd; subst hd
          simp only [St.rows, St.after, if_true] at hy
          obtain ⟨z, h1, h2⟩ := SV.map_cell hy
          exact ⟨z, by simpa [St.rows, pst] using h1, h2⟩
    · have hd' : isD d p = false := by simpa using hd
      right
      cases hix : idx X p with
      | none =>
        right
        refine ⟨hd', rfl, ?_⟩
        have : (σ.after X d sv E').rows p = σ.rows p := by
          cases p with
          | v k => simp only [St.rows, St.after, hix]
          | s i =>
            have : ¬ d = some i := fun e => by subst e; simp [isD] at hd'
            simp only [St.rows, St.after, hix, if_neg this]
        rw [← St.cell_congr this]; exact h
      | some m =>
        left
        refine ⟨hd', m, rfl, key (rows := []) fun y hy => ?_⟩
        cases p with
        | v k =>
          simp only [St.rows, St.after, hix] at hy
          simp only [St.rows, pst]
          cases hv : σ.vr k with
          | none => rw [hv] at hy; exact (hempty y hy).elim
          | some bd =>
            obtain ⟨b, ds⟩ := bd
            cases hE : E' (vbase + m) with
            | none => rw [hv, hE] at hy; exact (hempty y hy).elim
            | some bd' =>
              obtain ⟨b', ds'⟩ := bd'
              rw [hv, hE] at hy
              simp only at hy
              split at hy
              · next heq =>
                split at heq
                · simp only [Option.some.injEq, Prod.mk.injEq] at heq
                  rw [← heq.2] at hy
                  exact maprows hy
                · cases heq
              · exact (hempty y hy).elim
        | s i =>
          have : ¬ d = some i := fun e => by subst e; simp [isD] at hd'
          simp only [St.rows, St.after, hix, if_neg this, afterSl] at hy
          simp only [St.rows, pst]
          split at hy
          · next x1 hsl hE =>
            rw [hE]
            simp only [SV.rows] at hy
            exact maprows (ds := [_]) hy
          · next ds ds' hsl hE =>
            rw [hE]
            split at hy
            · exact maprows hy
            · exact (hempty y hy).elim
          · exact (hempty y hy).elim

end Go.AI

/-
  The abstract interpreter, part Y: behind a call (the proof).
-/
namespace Go.AI
open Go.RowKit

def Gh.after (G G1 : Gh) (w : World) (X : List Pl) (d : Option Nat) (vw : Bool) : Gh where
  val p π := if isD d p = true then G1.val (.s 0) π else match idx X p with
    | some m => G1.val (.v (vbase + m)) π
    | Option.none => G.val p π
  own b := match G1.own b with
    | some (.s _, π) => match d with
      | some i => some (.s i, π)
      | Option.none => Option.none
    | some (.v e, π) => if vbase ≤ e then (match X[e - vbase]? with
      | some q => some (q, π)
      | Option.none => Option.none) else Option.none
    | Option.none => if b < w.heap.size then (match G.own b with
      | some (q, π) => if (idx X q).isSome || isD d q then Option.none else some (q, π)
      | Option.none => Option.none) else Option.none
  imm b := G.imm b ∨ (vw = false ∧ G1.imm b)
  blk := G.blk

theorem isD_iff {d : Option Nat} {p : Pl} : isD d p = true ↔ ∃ i, d = some i ∧ p = .s i := by
  cases d with
  | none => simp [isD]
  | some i => cases p with
    | v k => simp [isD]
    | s i' =>
      simp only [isD, beq_iff_eq]
      exact ⟨fun e => ⟨i, rfl, by rw [e]⟩, fun ⟨j, e1, e2⟩ => by cases e1; cases e2; rfl⟩

section
variable {P : Program} {G : Gh} {σ : St} {a : Act} {w : World} {o : Oper}

theorem R.after (h : R G σ a w) {X : List Pl} (hX : X.Nodup) {vw : Bool} {f : Nat → Nat → Nat → Value} {svs : List SV} {sv : SV} {E' : Nat → Option (Bool × List D)} {G1 : Gh} {w' : World} {v : Value} {d : Option Nat}
    (hdn : ∀ i, d = some i → i < σ.n) (hdX : ∀ q ∈ X, isD d q = false)
    (h1 : R G1 (pst [sv] E') { tmps := #[v], defers := [] } w') (hk : Kf (G.portIn X vw f) w G1 w') (hx : FxE (σ.ext X) E' (G.portIn X vw f) G1)
    (hfr : vw = true → sv.Fresh ∧ ∀ e b ds, vbase ≤ e → e - vbase < X.length → E' e = some (b, ds) → ∀ x ∈ ds, x.Fresh) :
    R (G.after G1 w X d vw) (σ.after X d sv E') (a.put d v) w' ∧ Kp (X ++ (d.toList.map .s)) G w (G.after G1 w X d vw) w' ∧ Fx σ (σ.after X d sv E') G (G.after G1 w X d vw) := by
  have hin_none : ∀ b, (G.portIn X vw f).own b = Option.none ↔ G.own b = Option.none ∨ ∃ q π, G.own b = some (q, π) ∧ q ∉ X := by
    intro b
    simp only [Gh.portIn]
    cases ho : G.own b with
    | none => simp
    | some qπ =>
      obtain ⟨q, π⟩ := qπ
      simp only
      cases hix : idx X q with
      | none => simp [idx_none.1 hix]
      | some m => simp [List.mem_of_getElem? (idx_some hix)]
  -- blocks that are not lent
  have hkeep : ∀ b q π, G.own b = some (q, π) → q ∉ X → w'.heap[b]? = w.heap[b]? ∧ G1.own b = Option.none := fun b q π hb hq =>
    hk.free b (h.ownLt b _ hb) ((hin_none b).2 (.inr ⟨q, π, hb, hq⟩))
  have hfree : ∀ b, b < w.heap.size → G.own b = Option.none → w'.heap[b]? = w.heap[b]? ∧ G1.own b = Option.none := fun b hb h0 => hk.free b hb ((hin_none b).2 (.inl h0))
  have himm1 : ∀ b, G.imm b → G1.imm b := fun b hb => hk.imm b (.inl hb)
  have hsameI : ∀ b, G.imm b → SameAt w w' b := fun b hb => SameAt.of_heap (hfree b (h.immLt b hb) (h.immOwn b hb)).1
  -- who owns, behind it
  have hown : ∀ b q π, (G.after G1 w X d vw).own b = some (q, π) ↔
      (isD d q = true ∧ G1.own b = some (.s 0, π)) ∨ (∃ m, X[m]? = some q ∧ G1.own b = some (.v (vbase + m), π)) ∨
      (G.own b = some (q, π) ∧ q ∉ X ∧ isD d q = false) ∨ (isD d q = true ∧ ∃ i, G1.own b = some (.s (i + 1), π)) := by
    intro b q π
    simp only [Gh.after]
    cases ho : G1.own b with
    | some xp =>
      obtain ⟨x, τ⟩ := xp
      have hno : ¬ (G.own b = some (q, π) ∧ q ∉ X ∧ isD d q = false) := fun ⟨e, hq, _⟩ => by
        have := (hkeep b q π e hq).2
        rw [ho] at this; cases this
      cases x with
      | s i =>
        cases d with
        | none =>
          simp only [isD]
          constructor
          · intro e; cases e
          · rintro (⟨e, _⟩ | ⟨m, _, e⟩ | e | ⟨e, _⟩)
            · cases e
            · cases e
            · exact absurd e (by simpa [isD] using hno)
            · cases e
        | some i' =>
          simp only
          constructor
          · intro e; cases e
            cases i with
            | zero => exact .inl ⟨by simp [isD], rfl⟩
            | succ i => exact .inr (.inr (.inr ⟨by simp [isD], i, rfl⟩))
          · rintro (⟨e, e2⟩ | ⟨m, _, e⟩ | e | ⟨e, i, e2⟩)
            · obtain ⟨j, hj, rfl⟩ := isD_iff.1 e; cases hj; cases e2; rfl
            · cases e
            · exact absurd e hno
            · obtain ⟨j, hj, rfl⟩ := isD_iff.1 e; cases hj; cases e2; rfl
      | v e =>
        simp only
        constructor
        · intro he
          split at he
          · next hv =>
            split at he
            · next q' hq' =>
              simp only [Option.some.injEq, Prod.mk.injEq] at he
              obtain ⟨rfl, rfl⟩ := he
              exact .inr (.inl ⟨e - vbase, hq', by rw [show vbase + (e - vbase) = e by omega]⟩)
            · cases he
          · cases he
        · rintro (⟨_, e2⟩ | ⟨m, hm, e2⟩ | e2 | ⟨_, i, e2⟩)
          · cases e2
          · simp only [Option.some.injEq, Prod.mk.injEq, Pl.v.injEq] at e2
            obtain ⟨rfl, rfl⟩ := e2
            rw [if_pos (by omega), Nat.add_sub_cancel_left, hm]
          · exact absurd e2 hno
          · cases e2
    | none =>
      simp only
      constructor
      · intro he
        split at he
        · split at he
          · next q' π' ho' =>
            split at he
            · cases he
            · next hc =>
              simp only [Option.some.injEq, Prod.mk.injEq] at he
              obtain ⟨rfl, rfl⟩ := he
              simp only [Bool.or_eq_true, not_or, Bool.not_eq_true, Option.isSome_eq_false_iff, Option.isNone_iff_eq_none] at hc
              exact .inr (.inr (.inl ⟨ho', idx_none.1 hc.1, hc.2⟩))
          · cases he
        · cases he
      · rintro (⟨_, e⟩ | ⟨m, _, e⟩ | ⟨e, hq, hd⟩ | ⟨_, i, e⟩)
        · cases e
        · cases e
        · rw [if_pos (h.ownLt b _ e), e]
          simp [idx_none.2 hq, hd]
        · cases e
  have hvalD : ∀ p π, isD d p = true → (G.after G1 w X d vw).val p π = G1.val (.s 0) π := fun p π hp => by simp only [Gh.after, if_pos hp]
  have hvalX : ∀ p m π, idx X p = some m → (G.after G1 w X d vw).val p π = G1.val (.v (vbase + m)) π := fun p m π hp => by
    have : isD d p = false := hdX p (List.mem_of_getElem? (idx_some hp))
    simp [Gh.after, this, hp]
  have hvalO : ∀ p π, isD d p = false → idx X p = Option.none → (G.after G1 w X d vw).val p π = G.val p π := fun p π hp hx => by simp [Gh.after, hp, hx]
  -- top values of places that were lent as values
  have hext_s : ∀ i m, X[m]? = some (.s i) → ∀ ds', E' (vbase + m) = some (false, ds') → ∀ kj, G1.val (.v (vbase + m)) [kj] = G.val (.s i) [kj] := by
    intro i m hm ds' hE kj
    obtain ⟨_, h2⟩ := hx (vbase + m) (by omega)
    rw [(h2 ds' hE).2 kj, portIn_val hm]
  have himmN : ∀ b, (vw = false ∧ G1.imm b) → (G.after G1 w X d vw).own b = Option.none := by
    rintro b ⟨hv, hb⟩
    have ho1 := h1.immOwn b hb
    cases ho : (G.after G1 w X d vw).own b with
    | none => rfl
    | some xp =>
      obtain ⟨q, π⟩ := xp
      exfalso
      rcases (hown b q π).1 ho with ⟨_, e⟩ | ⟨m, _, e⟩ | ⟨e, hq, _⟩ | ⟨_, i, e⟩
      · rw [ho1] at e; cases e
      · rw [ho1] at e; cases e
      · rcases hk.immB b hb with h2 | h2 | ⟨_, q', h2⟩
        · rcases h2 with h2 | ⟨h2, _⟩
          · have := h.immOwn b h2; rw [e] at this; cases this
          · rw [hv] at h2; cases h2
        · have := h.ownLt b _ e; omega
        · have := (hin_none b).2 (.inr ⟨q, π, e, hq⟩)
          rw [this] at h2; cases h2
      · rw [ho1] at e; cases e
  have himmO : ∀ b, G.imm b → (G.after G1 w X d vw).own b = Option.none := by
    intro b hb
    have ho1 := h1.immOwn b (himm1 b hb)
    cases ho : (G.after G1 w X d vw).own b with
    | none => rfl
    | some xp =>
      obtain ⟨q, π⟩ := xp
      exfalso
      rcases (hown b q π).1 ho with ⟨_, e⟩ | ⟨m, _, e⟩ | ⟨e, hq, _⟩ | ⟨_, i, e⟩
      · rw [ho1] at e; cases e
      · rw [ho1] at e; cases e
      · have := h.immOwn b hb; rw [e] at this; cases this
      · rw [ho1] at e; cases e
  -- what came back
  have hback : ∀ (p q : Pl) (π : Path) (x : D), (∀ ρ, (G.after G1 w X d vw).val p ρ = G1.val q ρ) → (∀ b ρ, G1.own b = some (q, ρ) → (G.after G1 w X d vw).own b = some (p, ρ)) →
      (∀ ρ y, (pst [sv] E').cell q ρ = some y → vw = true → match y with
        | .lit _ | .nil | .sl true _ _ | .dead => True
        | _ => False) → (pst [sv] E').cell q π = some x → ((∀ q ρ n rg, x ≠ .bor q ρ n rg) ∧ ∀ q ρ i j n, x ≠ .addr q ρ i j n) →
      Loc (G.after G1 w X d vw) w' (σ.after X d sv E') p π x := by
    intro p q π x hv ho hf hc hnb
    have hl := h1.loc q π x hc
    have hmono : ∀ y u, (vw = false ∨ (∃ u', y = .lit u') ∨ y = .nil) → RO G1.imm w' y u → RO (G.after G1 w X d vw).imm w' y u := by
      rintro y u (hvw | ⟨u', rfl⟩ | rfl) hr
      · exact hr.mono (fun b hb => .inr ⟨hvw, hb⟩) (fun b _ => SameAt.refl w' b)
      · exact RO.lit.2 (RO.lit.1 hr)
      · obtain ⟨f', e1, e2⟩ := hr
        rw [← e1, show f' [] = _ from e2 [] _ rfl]; exact RO.nilV
    have hff := hf π x hc
    by_cases hio : x.isOwn = true
    · cases x with
      | sl u sz rows =>
        cases u with
        | false => simp [D.isOwn] at hio
        | true => exact LocOwn.port hl (hv π) (fun ij => hv _) (fun b hb => ho b π hb) (fun b _ => SameAt.refl w' b)
      | _ => simp [D.isOwn] at hio
    · refine Loc.ofV ?_
      rw [hv]
      have hlv := hl.toV (by simpa using hio)
      have hvwF : vw = false ∨ vw = true := by cases vw <;> simp
      cases x with
      | lit u => exact hmono _ _ (.inr (.inl ⟨u, rfl⟩)) hlv
      | nil => exact hmono _ _ (.inr (.inr rfl)) hlv
      | dead => trivial
      | sl u sz rows =>
        cases u with
        | true => simp [D.isOwn] at hio
        | false => rcases hvwF with e | e
                   · exact hmono _ _ (.inl e) (show RO G1.imm w' _ _ from hlv)
                   · exact (hff e).elim
      | raddr row => rcases hvwF with e | e
                     · exact hmono _ _ (.inl e) hlv
                     · exact (hff e).elim
      | clo g caps => rcases hvwF with e | e
                      · exact hmono _ _ (.inl e) hlv
                      · exact (hff e).elim
      | bor q ρ n rg => exact absurd rfl (hnb.1 q ρ n rg)
      | addr q ρ i j n => exact absurd rfl (hnb.2 q ρ i j n)
  have hfreshS : ∀ ρ y, (pst [sv] E').cell (.s 0) ρ = some y → vw = true → match y with
        | .lit _ | .nil | .sl true _ _ | .dead => True
        | _ => False := by
    intro ρ y hy hvw
    obtain ⟨sv', ij, ρ', z, q1, rfl, q2, q3⟩ := pst_slot hy
    simp at q1; subst q1
    exact ((hfr hvw).1.cell q2) ρ' y q3
  have hfreshV : ∀ e ρ y, vbase ≤ e → e - vbase < X.length → (pst [sv] E').cell (.v e) ρ = some y → vw = true → match y with
        | .lit _ | .nil | .sl true _ _ | .dead => True
        | _ => False := by
    intro e ρ y he1 he2 hy hvw
    cases ρ with
    | nil => simp [St.cell] at hy
    | cons ij ρ =>
      simp only [St.cell, St.rows, pst] at hy
      cases hE : E' e with
      | none => rw [hE] at hy; simp [cellIn] at hy
      | some bd =>
        obtain ⟨b, ds⟩ := bd
        rw [hE] at hy
        simp only at hy
        cases hc : cellIn [ds] ij with
        | none => rw [hc] at hy; cases hy
        | some z =>
          rw [hc] at hy
          obtain ⟨row, r1, r2⟩ := cellIn_some.1 (show cellIn [ds] (ij.1, ij.2) = some z from hc)
          have hz : z ∈ ds := by
            have := List.mem_of_getElem? r1
            simp at this; subst this
            exact List.mem_of_getElem? r2
          exact (hfr hvw).2 e b ds he1 he2 hE z hz ρ y hy
  have hdeep1 : ∀ q ij kl ρ x, (pst [sv] E').cell q (ij :: kl :: ρ) = some x → x.Nb := fun q ij kl ρ x hc => by
    have := h1.deep q ij kl ρ x hc
    exact ⟨fun _ _ _ _ e => (by rw [e] at this; cases this), fun _ _ _ _ _ e => (by rw [e] at this; cases this)⟩
  have hnb1 : ∀ q π x, (pst [sv] E').cell q π = some x → ((∃ ij, π = [ij]) → x.Nb) → x.Nb := fun q π x hc hn => by
    cases π with
    | nil => simp [St.cell] at hc
    | cons ij π =>
      cases π with
      | nil => exact hn ⟨ij, rfl⟩
      | cons kl π => exact hdeep1 q ij kl π x hc
  have hstp : ∀ q ρ, ρ ≠ [] → (isD d q = true ∨ ∃ m, idx X q = some m) → (σ.after X d sv E').stp q ρ = σ.tick := by
    intro q ρ hne hq
    have hc : ((idx X q).isSome || isD d q) = true := by
      rcases hq with e | ⟨m, e⟩ <;> simp [e]
    rcases ρ with _ | ⟨ij, _ | ⟨kl, ρ⟩⟩
    · exact absurd rfl hne
    · simp only [St.stp, St.after, if_pos hc]
    · simp only [St.stp, St.after, if_pos hc]
  have hstpO : ∀ q ρ, isD d q = false → idx X q = Option.none → (σ.after X d sv E').stp q ρ = σ.stp q ρ := by
    intro q ρ hq1 hq2
    rcases ρ with _ | ⟨ij, _ | ⟨kl, ρ⟩⟩
    · rfl
    · simp [St.stp, St.after, hq1, hq2]
    · simp [St.stp, St.after, hq1, hq2]
  have hcellO : ∀ q ρ, isD d q = false → idx X q = Option.none → (σ.after X d sv E').cell q ρ = σ.cell q ρ := by
    intro q ρ hq1 hq2
    refine St.cell_congr ?_ ρ
    cases q with
    | v k => simp only [St.rows, St.after, hq2]
    | s i =>
      have : ¬ d = some i := fun e => by subst e; simp [isD] at hq1
      simp only [St.rows, St.after, hq2, if_neg this]
  have hcases : ∀ q, (isD d q = true ∨ ∃ m, idx X q = some m) ∨ (isD d q = false ∧ idx X q = Option.none) := fun q => by
    cases e : isD d q with
    | true => exact .inl (.inl rfl)
    | false => cases e' : idx X q with
      | some m => exact .inl (.inr ⟨m, rfl⟩)
      | none => exact .inr ⟨rfl, rfl⟩
  have hcarry : ∀ u x, LocV G w σ u x → x.refLt σ.tick → LocV (G.after G1 w X d vw) w' (σ.after X d sv E') u x := by
    intro u x hv hr
    refine hv.carry (fun b hb => .inl hb) hsameI ?_ ?_
    · intro q π n rg e hs sz rows hc
      have hne : π ≠ [] := fun e => by rw [e] at hc; simp [St.cell] at hc
      rcases hcases q with hq | ⟨hq1, hq2⟩
      · rw [hstp q π hne hq] at hs
        rw [e] at hr
        have : n < σ.tick := hr
        omega
      · rw [hstpO q π hq1 hq2] at hs
        rw [hcellO q π hq1 hq2] at hc
        exact ⟨hs, ⟨rows, hc⟩, hvalO q π hq1 hq2⟩
    · intro q π i j n e hs ad hA
      cases π with
      | nil =>
        refine ⟨hs, ?_⟩
        obtain ⟨k, ds, rfl, hk', h0, rfl⟩ := hA
        have : ∃ ds0, σ.vr k = some (true, ds0) := by
          simp only [St.after] at hk'
          cases hix : idx X (.v k) with
          | none => rw [hix] at hk'; exact ⟨ds, hk'⟩
          | some m =>
            rw [hix] at hk'
            simp only at hk'
            split at hk'
            · next b ds0 b' ds' hv' hE' =>
              split at hk'
              · simp only [Option.some.injEq, Prod.mk.injEq] at hk'
                exact ⟨ds0, by rw [hv', hk'.1]⟩
              · cases hk'
            · cases hk'
        obtain ⟨ds0, hds0⟩ := this
        exact ⟨k, ds0, rfl, hds0, h0, rfl⟩
      | cons kl π =>
        rcases hcases q with hq | ⟨hq1, hq2⟩
        · rw [hstp q _ (by simp) hq] at hs
          rw [e] at hr
          have : n < σ.tick := hr
          omega
        · rw [hstpO q _ hq1 hq2] at hs
          refine ⟨hs, hA.congr (fun he => by simp at he) (fun _ sz rows hc => ?_)⟩
          rw [hcellO q _ hq1 hq2] at hc
          exact ⟨⟨rows, hc⟩, hvalO q _ hq1 hq2⟩
  have hsize : σ.tick < (σ.after X d sv E').tick := Nat.lt_succ_self _
  refine ⟨⟨by have := h.size; cases d <;> simpa [Act.put, St.after] using this, by have := h.defers; cases d <;> exact this, fun i hi => ?_, fun k ds hkk => ?_, fun p π x hxx => ?_, fun p ij kl ρ x hxx => ?_, fun b hb => ?_, fun b hb => ?_, fun b q hb => ?_, fun k => Nat.lt_succ_of_lt (h.stA k), fun p ij => ?_, fun p ij => ?_, fun p π q ρ n rg hxx => ?_, fun p π q ρ i j n hxx => ?_⟩, ?_, ?_⟩
  · -- slots
    have hi' : i < σ.n := hi
    by_cases hd : d = some i
    · subst hd
      have e1 : (a.put (some i) v).tmps.getD i undef = v := getD_set_same _ _ _ _ (by rw [h.size]; exact hi')
      have e2 : (σ.after X (some i) sv E').sl i = sv.map D.extD := by simp [St.after]
      rw [e1, e2]
      have h0 := h1.slots 0 (by simp [pst])
      simp only [pst, List.getElem?_cons_zero, Option.getD_some] at h0
      refine SV.map_rel ((SVrel_congr fun k j => ?_).2 h0)
      exact hvalD _ _ (by simp [isD])
    · have e1 : (a.put d v).tmps.getD i undef = a.tmps.getD i undef := by
        cases d with
        | none => rfl
        | some i' => exact getD_set_other _ _ _ _ _ (fun e => hd (by rw [e]))
      have hdi : isD d (.s i) = false := by
        cases e : isD d (.s i) with
        | false => rfl
        | true => obtain ⟨j, h2, h3⟩ := isD_iff.1 e; cases h3; exact absurd h2 hd
      rw [e1]
      have h0 := h.slots i hi'
      cases hix : idx X (.s i) with
      | none =>
        have e2 : (σ.after X d sv E').sl i = σ.sl i := by simp [St.after, hd, hix]
        rw [e2]
        exact (SVrel_congr fun k j => hvalO _ _ hdi hix).2 h0
      | some m =>
        have hm := idx_some hix
        have e2 : (σ.after X d sv E').sl i = afterSl (σ.sl i) (E' (vbase + m)) := by simp only [St.after, if_neg hd, hix]
        rw [e2]
        unfold afterSl
        split
        · next y x hsl hE =>
          rw [hsl] at h0
          show a.tmps.getD i undef = (G.after G1 w X d vw).val (.s i) [(0, 0)]
          rw [hvalX _ _ _ hix, hext_s i m hm _ hE]
          exact h0
        · next ds ds' hsl hE =>
          split
          · next hlen =>
            rw [hsl] at h0
            show a.tmps.getD i undef = _
            simp only [List.length_map, hlen]
            have : vals (fun k j => (G.after G1 w X d vw).val (.s i) [(k, j)]) 0 ds.length = vals (fun k j => G.val (.s i) [(k, j)]) 0 ds.length := by
              simp only [vals]
              refine List.map_congr_left fun j _ => ?_
              rw [hvalX _ _ _ hix, hext_s i m hm _ hE]
            rw [this]
            exact h0
          · trivial
        · trivial
  · -- variables
    simp only [St.after] at hkk
    cases hix : idx X (.v k) with
    | none =>
      rw [hix] at hkk
      obtain ⟨g1, g2, g3⟩ := h.vars k ds hkk
      have hk2 := hkeep _ _ _ g1 (idx_none.1 hix)
      have hs := SameAt.of_heap hk2.1
      refine ⟨(hown _ _ _).2 (.inr (.inr (.inl ⟨g1, idx_none.1 hix, by cases d <;> rfl⟩))), fun j hj => ?_, fun j hj => ?_⟩
      · have := g2 j hj
        rw [← (hs _).1, ← (hs _).2] at this; exact this
      · show w'.cell? ⟨G.blk k, j, Option.none⟩ = _
        rw [(hs _).1, hvalO _ _ (by cases d <;> rfl) hix]; exact g3 j hj
    | some m =>
      rw [hix] at hkk
      simp only at hkk
      have hm := idx_some hix
      split at hkk
      · next b ds0 b' ds' hv' hE =>
        split at hkk
        · next hb =>
          simp only [Option.some.injEq, Prod.mk.injEq] at hkk
          obtain ⟨rfl, rfl⟩ := hkk
          subst hb
          obtain ⟨g1, g2, g3⟩ := h1.vars (vbase + m) ds' hE
          have hblk : G1.blk (vbase + m) = G.blk k := by
            rw [(hx (vbase + m) (by omega)).1]
            simp only [Gh.portIn]
            rw [if_neg (by omega), Nat.add_sub_cancel_left, hm]
          rw [hblk] at g1 g2 g3
          refine ⟨(hown _ _ _).2 (.inr (.inl ⟨m, hm, g1⟩)), by rw [List.length_map]; exact g2, fun j hj => ?_⟩
          rw [hvalX _ _ _ hix]
          exact g3 j (by simpa using hj)
        · cases hkk
      · cases hkk
  · -- what lies where
    rcases after_cell hxx with ⟨hd, hc⟩ | ⟨hd, m, hm, hc⟩ | ⟨hd, hix, hc⟩
    · rcases hc with ⟨rfl, _⟩ | ⟨hc, hn⟩
      · trivial
      · exact hback p (.s 0) π x (fun ρ => hvalD p ρ hd) (fun b ρ hb => (hown b p ρ).2 (.inl ⟨hd, hb⟩)) hfreshS hc (hnb1 _ _ _ hc hn)
    · rcases hc with ⟨rfl, _⟩ | ⟨hc, hn⟩
      · trivial
      · exact hback p (.v (vbase + m)) π x (fun ρ => hvalX p m ρ hm) (fun b ρ hb => (hown b p ρ).2 (.inr (.inl ⟨m, idx_some hm, hb⟩))) (fun ρ y => hfreshV _ ρ y (by omega) (by have := (List.getElem?_eq_some_iff.1 (idx_some hm)).1; omega)) hc (hnb1 _ _ _ hc hn)
    · have hl := h.loc p π x hc
      by_cases hio : x.isOwn = true
      · cases x with
        | sl u sz rows =>
          cases u with
          | false => simp [D.isOwn] at hio
          | true =>
            refine LocOwn.port hl (hvalO p π hd hix) (fun ij => hvalO p _ hd hix) (fun b hb => (hown b p π).2 (.inr (.inr (.inl ⟨hb, idx_none.1 hix, hd⟩)))) (fun b hb => SameAt.of_heap (hkeep b p π hb (idx_none.1 hix)).1)
        | _ => simp [D.isOwn] at hio
      · refine Loc.ofV ?_
        rw [hvalO p π hd hix]
        exact hcarry _ _ (hl.toV (by simpa using hio)) (h.refLt hc)
  · rcases after_cell hxx with ⟨hd, hc⟩ | ⟨hd, m, hm, hc⟩ | ⟨hd, hix, hc⟩
    · rcases hc with ⟨_, _, e⟩ | ⟨hc, _⟩
      · simp at e
      · exact h1.deep _ ij kl ρ x hc
    · rcases hc with ⟨_, _, e⟩ | ⟨hc, _⟩
      · simp at e
      · exact h1.deep _ ij kl ρ x hc
    · exact h.deep _ ij kl ρ x hc
  · rcases hb with hb | hb
    · exact himmO b hb
    · exact himmN b hb
  · rcases hb with hb | ⟨_, hb⟩
    · exact Nat.lt_of_lt_of_le (h.immLt b hb) hk.size
    · exact h1.immLt b hb
  · obtain ⟨q, π⟩ := q
    rcases (hown b q π).1 hb with ⟨_, e⟩ | ⟨m, _, e⟩ | ⟨e, _, _⟩ | ⟨_, i, e⟩
    · exact h1.ownLt b _ e
    · exact h1.ownLt b _ e
    · exact Nat.lt_of_lt_of_le (h.ownLt b _ e) hk.size
    · exact h1.ownLt b _ e
  · show (if _ then σ.tick else σ.sb p ij) < σ.tick + 1
    have := h.stB p ij
    split <;> omega
  · show (if _ then σ.tick else σ.sc p ij) < σ.tick + 1
    have := h.stC p ij
    split <;> omega
  · rcases after_cell hxx with ⟨hd, hc⟩ | ⟨hd, m, hm, hc⟩ | ⟨hd, hix, hc⟩
    · rcases hc with ⟨e, _⟩ | ⟨hc, hn⟩
      · cases e
      · exact absurd rfl ((hnb1 _ _ _ hc hn).1 _ _ _ _)
    · rcases hc with ⟨e, _⟩ | ⟨hc, hn⟩
      · cases e
      · exact absurd rfl ((hnb1 _ _ _ hc hn).1 _ _ _ _)
    · exact Nat.lt_succ_of_lt (h.stBor _ _ _ _ _ _ hc)
  · rcases after_cell hxx with ⟨hd, hc⟩ | ⟨hd, m, hm, hc⟩ | ⟨hd, hix, hc⟩
    · rcases hc with ⟨e, _⟩ | ⟨hc, hn⟩
      · cases e
      · exact absurd rfl ((hnb1 _ _ _ hc hn).2 _ _ _ _ _)
    · rcases hc with ⟨e, _⟩ | ⟨hc, hn⟩
      · cases e
      · exact absurd rfl ((hnb1 _ _ _ hc hn).2 _ _ _ _ _)
    · exact Nat.lt_succ_of_lt (h.stAddr _ _ _ _ _ _ _ hc)
  · -- the frame
    refine ⟨hk.os, hk.tape, hk.output, hk.size, fun b hb h0 => ?_, fun b p π hp hb => ?_, fun b hb => .inl hb, fun b hb => ?_⟩
    · obtain ⟨e1, e2⟩ := hfree b hb h0
      refine ⟨e1, ?_⟩
      cases ho : (G.after G1 w X d vw).own b with
      | none => rfl
      | some xp =>
        obtain ⟨q, π⟩ := xp
        rcases (hown b q π).1 ho with ⟨_, e⟩ | ⟨m, _, e⟩ | ⟨e, _, _⟩ | ⟨_, i, e⟩
        · rw [e2] at e; cases e
        · rw [e2] at e; cases e
        · rw [h0] at e; cases e
        · rw [e2] at e; cases e
    · simp only [List.mem_append, not_or] at hp
      obtain ⟨hp1, hp2⟩ := hp
      refine ⟨(hkeep b p π hb hp1).1, (hown b p π).2 (.inr (.inr (.inl ⟨hb, hp1, ?_⟩)))⟩
      cases e : isD d p with
      | false => rfl
      | true => obtain ⟨i, rfl, rfl⟩ := isD_iff.1 e; simp at hp2
    · rcases hb with hb | ⟨hvw, hb⟩
      · exact .inl hb
      · rcases hk.immB b hb with h2 | h2 | ⟨hlt, q', h2⟩
        · rcases h2 with h2 | ⟨h2, _⟩
          · exact .inl h2
          · rw [hvw] at h2; cases h2
        · exact .inr (.inl h2)
        · right; right
          cases ho : G.own b with
          | none => have := (hin_none b).2 (.inl ho); rw [this] at h2; cases h2
          | some xp =>
            obtain ⟨q, π⟩ := xp
            by_cases hq : q ∈ X
            · exact ⟨q, π, by simp [hq], rfl⟩
            · have := (hin_none b).2 (.inr ⟨q, π, ho, hq⟩); rw [this] at h2; cases h2
  · refine ⟨rfl, fun _ _ => rfl, fun i _ ds' hds => ?_⟩
    simp only [St.after] at hds
    cases hix : idx X (.v i) with
    | none =>
      rw [hix] at hds
      exact ⟨⟨ds', hds⟩, fun kj => hvalO _ _ (by cases d <;> rfl) hix⟩
    | some m =>
      rw [hix] at hds
      simp only at hds
      have hm := idx_some hix
      split at hds
      · next b ds0 b' ds2 hv' hE =>
        split at hds
        · next hb =>
          simp only [Option.some.injEq, Prod.mk.injEq] at hds
          obtain ⟨rfl, _⟩ := hds
          subst hb
          refine ⟨⟨ds0, hv'⟩, fun kj => ?_⟩
          rw [hvalX _ _ _ hix, ((hx (vbase + m) (by omega)).2 _ hE).2 kj, portIn_val hm]
        · cases hds
      · cases hds

end
end Go.AI

/-
  The abstract interpreter, part Z: code, walked over states.
-/
namespace Go.AI
open Go.RowKit

section
variable {P : Program} {G : Gh} {σ : St} {a : Act} {w : World} {o : Oper}

def enters (P : Program) (f : FuncId) : Bool := match P.funcs[f]? with
  | some fn => fn.body.isSome && fn.name != "runtime.NumGoroutine"
  | Option.none => false

/-- A function of the program, and what it does. -/
def Does (P : Program) (f : FuncId) (args : List SV) (E : Nat → Option (Bool × List D)) (Q : SV → (Nat → Option (Bool × List D)) → Prop) : Prop :=
  enters P f = true ∧ AC P f args E Q

def callOf (o : Oper) : Option (Operand × List Operand) := match o.op with
  | .call c => match c.callee with
    | .value f => some (f, c.args.toList)
    | _ => Option.none
  | _ => Option.none

/-- A call by contract: of which function, which places it is lent, whether it may read what is not lent; and what follows. -/
def callN (P : Program) (σ : St) (f : Operand) (xs : List Operand) (d : Option Nat) (T : Pl → Prop) (K : St → Prop) : Prop :=
  ∃ g caps X vw Q, σ.rd f = .one (.clo g caps) ∧ X.Nodup ∧ (∀ q ∈ X, isD d q = false) ∧ (∀ i, d = some i → i < σ.n) ∧ (∀ q ∈ X, T q) ∧ (∀ i, d = some i → T (.s i)) ∧
    Does P g ((xs.map σ.rd ++ caps.map fun c => SV.one c.ro).map (argSV σ X vw)) (σ.ext X) Q ∧
    ∀ sv E', Q sv E' → (vw = true → sv.Fresh ∧ ∀ e b ds, vbase ≤ e → e - vbase < X.length → E' e = some (b, ds) → ∀ x ∈ ds, x.Fresh) ∧ K (σ.after X d sv E')

/-- A call whose outcome is told in the caller's own state. -/
def callR (P : Program) (σ : St) (f : Operand) (xs : List Operand) (d : Option Nat) (T : Pl → Prop) (K : St → Prop) : Prop :=
  ∃ g, σ.rd f = .one (.clo g []) ∧ enters P g = true ∧ ∀ G a w, R G σ a w →
    Calls P g (xs.map a.eval).toArray w fun e w' => ∃ v σ' G' t, e = .returned v ∧ K σ' ∧ (∀ p ∈ t, T p) ∧ R G' σ' (a.put d v) w' ∧ Kp t G w G' w' ∧ Fx σ σ' G G'

def callA (P : Program) (σ : St) (f : Operand) (xs : List Operand) (d : Option Nat) (T : Pl → Prop) (K : St → Prop) : Prop :=
  callN P σ f xs d T K ∨ callR P σ f xs d T K

/-- Two ways: as functions that nobody opens before it is settled which one is gone. -/
def Fork (c : Bool) (f g : St → Prop) (σ : St) : Prop := if c = true then f σ else g σ
theorem Fork_true {f g : St → Prop} {σ : St} : Fork true f g σ = f σ := by simp [Fork]
theorem Fork_false {f g : St → Prop} {σ : St} : Fork false f g σ = g σ := by simp [Fork]
theorem fork_intro {c : Bool} {f g : St → Prop} {σ : St} (h1 : c = true → f σ) (h2 : c = false → g σ) : Fork c f g σ := by
  cases c
  · rw [Fork_false]; exact h2 rfl
  · rw [Fork_true]; exact h1 rfl

/-- What follows an operation: nobody looks into it before the operation's outcome stands. -/
def Then (x : Option (St × List Pl)) (K : St → Prop) : Prop := match x with
  | some (σ', _) => K σ'
  | Option.none => False
@[congr] theorem Then_congr {x x' : Option (St × List Pl)} {K : St → Prop} (h : x = x') : Then x K = Then x' K := by rw [h]
theorem Then_some {σ : St} {t : List Pl} {K : St → Prop} : Then (some (σ, t)) K = K σ := rfl

def opA (P : Program) (σ : St) (o : Oper) (K : St → Prop) : Prop :=
  match callOf o with
  | some (f, xs) => callA P σ f xs o.dst (fun _ => True) K
  | Option.none => Then (opS P σ o) K

def opK (P : Program) (o : Oper) (K : St → Prop) (σ : St) : Prop := opA P σ o K
def skipK (o : Oper) (K : St → Prop) (σ : St) : Prop := K (skipS σ o)

def awpOps (P : Program) (ops : Array Oper) (Q : St → Prop) : List Oper → St → Prop
  | [], σ => Q σ
  | o :: r, σ => match guardS ops σ o with
    | some b => Fork b (opK P o (awpOps P ops Q r)) (skipK o (awpOps P ops Q r)) σ
    | Option.none => False

def thenS (K : St → Prop) (Q : Exit → St → Prop) : Exit → St → Prop
  | .normal, σ => K σ
  | e, σ => Q e σ

def inBlockS (id : Nat) (Q : Exit → St → Prop) : Exit → St → Prop
  | .exit id', σ => if id' = id then Q .normal σ else Q (.exit id') σ
  | e, σ => Q e σ

def roundsS (W : (Exit → St → Prop) → St → Prop) (Q : Exit → St → Prop) : Nat → St → Prop
  | 0, _ => False
  | n + 1, σ => W (thenS (roundsS W Q n) Q) σ

/-- What is known behind a piece of code. -/
def lift (G : Gh) (w : World) (σ : St) (Q : Exit → St → Prop) (e : Exit) (a' : Act) (w' : World) : Prop :=
  ∃ σ' G', Q e σ' ∧ (e = .normal ∨ (∃ id, e = .exit id) ∨ e = .ret) ∧ R G' σ' a' w' ∧ Kf G w G' w' ∧ Fx σ σ' G G'

/-- A region that asks the tape: what is to be shown (the steps are in the next part). -/
def awpDraw (P : Program) (ops : Array Oper) (Q : St → Prop) (σ : St) : Prop :=
  ∀ G a w, R G σ a w → ∀ id, (Code.region id ops true).wp P (lift G w σ (fun e σ' => e = .normal ∧ Q σ')) a w

def awp (P : Program) : Code → (Exit → St → Prop) → St → Prop
  | .skip, Q, σ => Q .normal σ
  | .region _ ops draw, Q, σ => match draw with
    | false => awpOps P ops (Q .normal) ops.toList σ
    | true => awpDraw P ops (Q .normal) σ
  | .seq x y, Q, σ => awp P x (thenS (awp P y Q) Q) σ
  | .cond c x y, Q, σ => match σ.rd c with
    | .one (.lit (.bool t)) => if t = true then awp P x Q σ else awp P y Q σ
    | _ => False
  | .block id c, Q, σ => awp P c (inBlockS id Q) σ
  | .loop c, Q, σ => ∃ n, roundsS (awp P c) Q n σ
  | .exit id, Q, σ => Q (.exit id) σ
  | .ret, Q, σ => Q .ret σ
  | _, _, _ => False

theorem rd_clo (h : R G σ a w) {f : Operand} {g : FuncId} {caps : List D} (hr : σ.rd f = .one (.clo g caps)) : ∃ vs : List Value, a.eval f = .func (.func g) #[] vs.toArray ∧ vs.length = caps.length ∧
    ∀ (j : Nat) c, caps[j]? = some c → ∃ v, vs[j]? = some v ∧ RO G.imm w c v := by
  have hv := h.rd f
  rw [hr] at hv
  obtain ⟨f', e1, e2⟩ := (show RO G.imm w (.clo g caps) (a.eval f) from (tells_one_iff.1 hv).1)
  refine ⟨(List.range caps.length).map fun j => f' [(0, j)], by rw [← e1]; exact e2 [] _ rfl, by simp, fun j c hc => ?_⟩
  have hj := (List.getElem?_eq_some_iff.1 hc).1
  exact ⟨f' [(0, j)], by simp [hj], RO.sub e2 (cellIn_some.2 ⟨caps, rfl, hc⟩)⟩

/-- THE CALL. -/
theorem call_wp (h : R G σ a w) {f : Operand} {xs : List Operand} {T : Pl → Prop} {K : St → Prop} (ho : callOf o = some (f, xs)) (hc : callA P σ f xs o.dst T K) {K' : Act → World → Prop} {Q : Exit → Act → World → Prop}
    (hK : ∀ σ' G' v w' t, K σ' → (∀ p ∈ t, T p) → R G' σ' (a.put o.dst v) w' → Kp t G w G' w' → Fx σ σ' G G' → K' (a.put o.dst v) w') : o.wp P a w K' Q := by
  have hop : ∃ c, o.op = .call c ∧ c.callee = .value f ∧ c.args.toList = xs := by
    unfold callOf at ho
    split at ho
    · next c hc =>
      split at ho
      · next f' hf =>
        simp only [Option.some.injEq, Prod.mk.injEq] at ho
        exact ⟨c, hc, by rw [hf, ho.1], ho.2⟩
      · cases ho
    · cases ho
  obtain ⟨c, hc1, hc2, hc3⟩ := hop
  rcases hc with hc | hc
  case inr =>
    obtain ⟨g, h1, h5, h6⟩ := hc
    obtain ⟨vs, hv1, hv2, hv3⟩ := rd_clo h h1
    obtain rfl : vs = [] := List.length_eq_zero_iff.1 (by simpa using hv2)
    have hargs : c.args.map a.eval = (xs.map a.eval).toArray := by rw [← hc3, ← Array.toList_map]
    have hrun : (execOp a.eval o).run P w = .ok (.enter g (xs.map a.eval).toArray) w := by
      unfold enters at h5
      split at h5
      · next fn hf =>
        simp only [Bool.and_eq_true, bne_iff_ne, ne_eq] at h5
        obtain ⟨bd, hbd⟩ := Option.isSome_iff_exists.1 h5.1
        simp only [execOp, hc1, resolve, hc2, hv1, Deferred.ofValue]
        simp [invoke, callFunc, hf, h5.2, hbd, hargs]
      · cases h5
    unfold Oper.wp
    rw [hrun]
    show Calls P g _ w _
    refine Calls.mono (h6 G a w h) fun e w' he => ?_
    obtain ⟨v, σ', G', t, rfl, k1, k2, k3, k4, k5⟩ := he
    exact hK σ' G' v w' t k1 k2 k3 k4 k5
  obtain ⟨g, caps, X, vw, QQ, h1, h2, h3, h4, hT1, hT2, ⟨h5, h6⟩, h7⟩ := hc
  obtain ⟨vs, hv1, hv2, hv3⟩ := rd_clo h h1
  have hargs : c.args.map a.eval ++ vs.toArray = (xs.map a.eval ++ vs).toArray := by
    rw [← hc3]; simp
  have hrun : (execOp a.eval o).run P w = .ok (.enter g (xs.map a.eval ++ vs).toArray) w := by
    unfold enters at h5
    split at h5
    · next fn hf =>
      simp only [Bool.and_eq_true, bne_iff_ne, ne_eq] at h5
      obtain ⟨bd, hbd⟩ := Option.isSome_iff_exists.1 h5.1
      simp only [execOp, hc1, resolve, hc2, hv1, Deferred.ofValue]
      simp [invoke, callFunc, hf, h5.2, hbd, ← hargs]
    · cases h5
  unfold Oper.wp
  rw [hrun]
  show Calls P g _ w _
  have hpin := h.portIn h2 vw (svs := xs.map σ.rd ++ caps.map fun c => SV.one c.ro) (vs := xs.map a.eval ++ vs) (by simp [hv2]) (fun i sv hs => by
    rcases Nat.lt_or_ge i xs.length with hlt | hge
    · rw [List.getElem?_append_left (by simpa using hlt), List.getElem?_map, Option.map_eq_some_iff] at hs
      obtain ⟨x, hx, rfl⟩ := hs
      exact ⟨a.eval x, by rw [List.getElem?_append_left (by simpa using hlt), List.getElem?_map, hx]; rfl, h.rd x⟩
    · rw [List.getElem?_append_right (by simpa using hge), List.getElem?_map, Option.map_eq_some_iff] at hs
      obtain ⟨c', hc', rfl⟩ := hs
      obtain ⟨v, r1, r2⟩ := hv3 _ c' hc'
      refine ⟨v, by rw [List.getElem?_append_right (by simpa using hge)]; simpa using r1, ?_⟩
      obtain ⟨q1, q2⟩ := r2.toV (σ := σ)
      exact tells_one q1 q2)
  obtain ⟨fF, hpin⟩ := hpin
  refine Calls.mono (h6 (G.portIn X vw fF) (xs.map a.eval ++ vs) w (by simp [hv2]) hpin) fun e w' he => ?_
  cases e with
  | returned v =>
    obtain ⟨sv, E', G1, k1, k2, k3, k4⟩ := he
    obtain ⟨k5, k6⟩ := h7 sv E' k1
    obtain ⟨r1, r2, r3⟩ := h.after h2 (f := fF) (svs := xs.map σ.rd ++ caps.map fun c => SV.one c.ro) (d := o.dst) h4 h3 k2 k3 k4 k5
    refine hK _ _ v w' _ k6 (fun p hp => ?_) r1 r2 r3
    simp only [List.mem_append, List.mem_map, Option.mem_toList] at hp
    rcases hp with hp | ⟨i, hi, rfl⟩
    · exact hT1 p hp
    · exact hT2 i hi
  | panicked ch => exact he.elim
  | outgrown => exact he.elim

theorem wpList_mono {ops : Array Oper} {Q Q' : Exit → Act → World → Prop} (hp : ∀ e a w, Q e a w → Q' e a w) : ∀ (l : List Oper) {a : Act} {w : World}, wpList P ops Q l a w → wpList P ops Q' l a w
  | [], a, w, h => hp _ _ _ h
  | o :: r, a, w, h => by
    unfold wpList at h ⊢
    split
    · next hw =>
      rw [if_pos hw] at h
      rcases h with h | ⟨h1, a', w', h2⟩
      · left
        unfold Oper.wp at h ⊢
        generalize (execOp a.eval o).run P w = rr at h
        cases rr with
        | ok n w' =>
          cases n <;> simp only [Oper.upon] at h ⊢
          case value v => exact wpList_mono hp r h
          case skip => exact wpList_mono hp r h
          case defer d => exact wpList_mono hp r h
          case enter f args =>
            refine Calls.mono h fun e w'' he => ?_
            cases e with
            | returned v => exact wpList_mono hp r he
            | panicked c => exact hp _ _ _ he
            | outgrown => obtain ⟨a', w', he⟩ := he; exact ⟨a', w', hp _ _ _ he⟩
          case row row args => exact Rows.mono h fun v w'' he => wpList_mono hp r he
        | halt x w' =>
          cases x <;> simp only [Oper.upon] at h ⊢
          case panic v => exact hp _ _ _ h
      · right
        exact ⟨h1, a', w', hp _ _ _ h2⟩
    · next hw =>
      rw [if_neg hw] at h
      exact wpList_mono hp r h

theorem lift_trans {G0 G1 : Gh} {w0 w1 : World} {σ0 σ1 : St} {Q : Exit → St → Prop} (hk : Kf G0 w0 G1 w1) (hf : Fx σ0 σ1 G0 G1) {e : Exit} {a' : Act} {w' : World} (h : lift G1 w1 σ1 Q e a' w') : lift G0 w0 σ0 Q e a' w' := by
  obtain ⟨σ', G', h1, h2, h3, h4, h5⟩ := h
  exact ⟨σ', G', h1, h2, h3, hk.trans h4, hf.trans h5⟩

theorem awpOps_sound {ops : Array Oper} {Q : St → Prop} : ∀ (l : List Oper) {σ : St}, awpOps P ops Q l σ → ∀ {G a w}, R G σ a w → wpList P ops (lift G w σ (fun e σ' => e = .normal ∧ Q σ')) l a w
  | [], σ, h, G, a, w, hR => ⟨σ, G, ⟨rfl, h⟩, .inl rfl, hR, Kf.refl G w, Fx.refl σ G⟩
  | o :: r, σ, h, G, a, w, hR => by
    have mono : ∀ {σ' G' a' w'}, awpOps P ops Q r σ' → R G' σ' a' w' → Kf G w G' w' → Fx σ σ' G G' → wpList P ops (lift G w σ (fun e σ' => e = .normal ∧ Q σ')) r a' w' := by
      intro σ' G' a' w' h1 h2 h3 h4
      exact wpList_mono (fun e a'' w'' hl => lift_trans h3 h4 hl) r (awpOps_sound r h1 h2)
    simp only [awpOps] at h
    unfold wpList
    split at h
    · next b hg =>
      have hw := guard_spec hR hg
      unfold Fork at h
      split at h
      · next hb =>
        subst hb
        rw [if_pos hw]
        left
        unfold opK opA at h
        split at h
        · next f xs ho =>
          exact call_wp hR ho h fun σ' G' v w' t k1 _ k2 k3 k4 => mono k1 k2 k3.toKf k4
        · unfold Then at h
          split at h
          · next σ' t hop =>
            obtain ⟨x, G', w', h1, h2, h3, h4⟩ := op_out hR hop
            unfold Oper.wp
            rw [h1]
            rcases h2 with ⟨v, rfl, h2⟩ | ⟨rfl, h2⟩
            · exact mono h h2 h3.toKf h4
            · exact mono h h2 h3.toKf h4
          · exact h.elim
      · next hb =>
        have : b = false := by simpa using hb
        subst this
        rw [if_neg (by rw [hw]; simp)]
        obtain ⟨G', h1, h2, h3⟩ := skip_spec (o := o) hR
        exact mono (show awpOps P ops Q r (skipS σ o) from h) h1 h2.toKf h3
    · exact h.elim

theorem awp_sound : ∀ (c : Code) (Q : Exit → St → Prop) (σ : St), awp P c Q σ → ∀ G a w, R G σ a w → c.wp P (lift G w σ Q) a w
  | .skip, Q, σ, h, G, a, w, hR => wp_skip ⟨σ, G, h, .inl rfl, hR, Kf.refl G w, Fx.refl σ G⟩
  | .region id ops false, Q, σ, h, G, a, w, hR => wp_mono (wp_region_list (awpOps_sound _ h hR)) fun e a' w' hl => by
      obtain ⟨σ', G', ⟨rfl, h1⟩, h2⟩ := hl
      exact ⟨σ', G', h1, h2⟩
  | .region id ops true, Q, σ, h, G, a, w, hR => wp_mono (h G a w hR id) fun e a' w' hl => by
      obtain ⟨σ', G', ⟨rfl, h1⟩, h2⟩ := hl
      exact ⟨σ', G', h1, h2⟩
  | .seq x y, Q, σ, h, G, a, w, hR => wp_seq (wp_mono (awp_sound x _ σ h G a w hR) fun e a' w' hl => by
      obtain ⟨σ', G', h1, h2, h3, h4, h5⟩ := hl
      cases e with
      | normal => exact wp_mono (awp_sound y Q σ' h1 G' a' w' h3) fun e a'' w'' hl => lift_trans h4 h5 hl
      | exit id => exact ⟨σ', G', h1, h2, h3, h4, h5⟩
      | ret => exact ⟨σ', G', h1, h2, h3, h4, h5⟩
      | _ => simp at h2)
  | .cond c x y, Q, σ, h, G, a, w, hR => by
      simp only [awp] at h
      split at h
      · next t hr =>
        have hv := litOf hR hr
        refine wp_cond hv ?_
        split at h
        · next ht => subst ht; exact awp_sound x Q σ h G a w hR
        · next ht =>
          have : t = false := by simpa using ht
          subst this
          exact awp_sound y Q σ h G a w hR
      · exact h.elim
  | .block id c, Q, σ, h, G, a, w, hR => wp_block (wp_mono (awp_sound c _ σ h G a w hR) fun e a' w' hl => by
      obtain ⟨σ', G', h1, h2, h3, h4, h5⟩ := hl
      cases e with
      | normal => exact ⟨σ', G', h1, h2, h3, h4, h5⟩
      | exit id' =>
        simp only [inBlockS] at h1
        simp only [Exit.inBlock]
        split at h1
        · next he => rw [if_pos he]; exact ⟨σ', G', h1, .inl rfl, h3, h4, h5⟩
        · next he => rw [if_neg he]; exact ⟨σ', G', h1, h2, h3, h4, h5⟩
      | ret => exact ⟨σ', G', h1, h2, h3, h4, h5⟩
      | _ => simp at h2)
  | .loop c, Q, σ, h, G, a, w, hR => by
      obtain ⟨n, hn⟩ := h
      refine wp_loop_rounds n ?_
      have key : ∀ (n : Nat) (σ' : St) (G' : Gh) (a' : Act) (w' : World), roundsS (awp P c) Q n σ' → R G' σ' a' w' → Kf G w G' w' → Fx σ σ' G G' → Code.rounds P c (lift G w σ Q) n a' w' := by
        intro n
        induction n with
        | zero => intro σ' G' a' w' hr; exact hr.elim
        | succ n ih =>
          intro σ' G' a' w' hr hR' hk hf
          refine wp_mono (awp_sound c _ σ' hr G' a' w' hR') fun e a'' w'' hl => ?_
          obtain ⟨σ2, G2, h1, h2, h3, h4, h5⟩ := hl
          cases e with
          | normal => exact ih σ2 G2 a'' w'' h1 h3 (hk.trans h4) (hf.trans h5)
          | exit id => exact ⟨σ2, G2, h1, h2, h3, hk.trans h4, hf.trans h5⟩
          | ret => exact ⟨σ2, G2, h1, h2, h3, hk.trans h4, hf.trans h5⟩
          | _ => simp at h2
      exact key n σ G a w hn hR (Kf.refl G w) (Fx.refl σ G)
  | .exit id, Q, σ, h, G, a, w, hR => wp_exit ⟨σ, G, h, .inr (.inl ⟨id, rfl⟩), hR, Kf.refl G w, Fx.refl σ G⟩
  | .ret, Q, σ, h, G, a, w, hR => wp_ret ⟨σ, G, h, .inr (.inr rfl), hR, Kf.refl G w, Fx.refl σ G⟩
  | .rangeFunc _ _ _ _, Q, σ, h, G, a, w, hR => h.elim
  | .scope _, Q, σ, h, G, a, w, hR => h.elim
  | .label _, Q, σ, h, G, a, w, hR => h.elim
  | .goto _, Q, σ, h, G, a, w, hR => h.elim
  | .refuse _, Q, σ, h, G, a, w, hR => h.elim

end
end Go.AI

/-
  The abstract interpreter, part Za: a function's entry and its return.
-/
namespace Go.AI
open Go.RowKit

def St.rowD (σ : St) : Pl → Option (Bool × List D)
  | .s i => match σ.sl i with
    | .one d => some (false, [d])
    | .agg ds => some (true, ds)
    | _ => Option.none
  | .v _ => Option.none

def retPlace (P : Program) (σ : St) (n : Nat) : ResultVar → Option (Pl × Bool × List D)
  | .tmp t => if t < n then match σ.sl t with
      | .one d => some (.s t, false, [d])
      | .agg ds => some (.s t, true, ds)
      | _ => Option.none
    else Option.none
  | .cell t T => if t < n then match σ.rd (.tmp t) with
      | .one (.addr (.v k) [] 0 0 m) => if k < n ∧ σ.sa k = m then match σ.vr k, isRowT P T, tsz P T with
          | some (true, ds), some b, some sz => if sz = ds.length ∧ (b = true ∨ sz = 1) then some (.v k, b, ds) else Option.none
          | _, _, _ => Option.none
        else Option.none
      | _ => Option.none
    else Option.none

def retPlaces (P : Program) (σ : St) (n : Nat) : List ResultVar → Option (List (Pl × Bool × List D))
  | [] => some []
  | r :: rs => match retPlace P σ n r, retPlaces P σ n rs with
    | some x, some xs => some (x :: xs)
    | _, _ => Option.none

def retSV : List (Pl × Bool × List D) → SV
  | [(_, true, ds)] => .agg (ds.map D.extD)
  | [(_, false, [d])] => .one d.extD
  | [(_, false, _)] => .none
  | l => .tup (l.map fun x => (x.2.1, x.2.2.map D.extD))

def extOut (σ : St) (e : Nat) : Option (Bool × List D) := if e < vbase then Option.none else match σ.vr e with
  | some (b, ds) => some (b, ds.map D.extD)
  | Option.none => Option.none

def Gh.out (G : Gh) (Y : List Pl) : Gh where
  val p π := match p with
    | .s i => if i = 0 then (match π with
      | (k, j) :: ρ => match Y[k]? with
        | some q => G.val q ((0, j) :: ρ)
        | Option.none => undef
      | [] => undef) else undef
    | .v e => G.val (.v e) π
  own b := match G.own b with
    | some (q, π) => match idx Y q with
      | some k => match π with
        | (0, j) :: ρ => some (.s 0, (k, j) :: ρ)
        | _ => Option.none
      | Option.none => match q with
        | .v e => if vbase ≤ e then some (.v e, π) else Option.none
        | .s _ => Option.none
    | Option.none => Option.none
  imm := G.imm
  blk := G.blk

section
variable {P : Program} {G : Gh} {σ : St} {a : Act} {w : World} {o : Oper}

theorem mapCell {ds : List D} {g : D → D} {ij : Nat × Nat} {y : D} (hy : cellIn [ds.map g] ij = some y) : ∃ z, cellIn [ds] ij = some z ∧ y = g z := by
  obtain ⟨i, j⟩ := ij
  obtain ⟨row, h1, h2⟩ := cellIn_some.1 hy
  cases i with
  | succ i => simp at h1
  | zero =>
    simp at h1; subst h1
    rw [List.getElem?_map, Option.map_eq_some_iff] at h2
    obtain ⟨z, h3, h4⟩ := h2
    exact ⟨z, cellIn_some.2 ⟨ds, rfl, h3⟩, h4.symm⟩

/-- What is known of one result. -/
theorem retPlace_spec (h : R G σ a w) {n : Nat} (hn : σ.n = n) (hnb : n ≤ vbase) {r : ResultVar} {q : Pl} {b : Bool} {ds : List D} (hr : retPlace P σ n r = some (q, b, ds)) :
    σ.rows q = [ds] ∧ (∀ e, vbase ≤ e → q ≠ .v e) ∧ (b = false → ds.length = 1) ∧
    (match r with
      | .tmp t => (pure (a.tmps.getD t undef) : Sem Value)
      | .cell c t => do loadVar t (← asAddr (a.tmps.getD c undef))).run P w = .ok (cval b (vals (fun _ j => G.val q [(0, j)]) 0 ds.length)) w := by
  cases r with
  | tmp t =>
    simp only [retPlace] at hr
    split at hr
    · next ht =>
      have h0 := h.slots t (by rw [hn]; exact ht)
      split at hr
      · next d hd =>
        simp only [Option.some.injEq, Prod.mk.injEq] at hr; obtain ⟨rfl, rfl, rfl⟩ := hr
        rw [hd] at h0
        refine ⟨by simp [St.rows, hd, SV.rows], fun e _ e' => (by cases e'), fun _ => rfl, ?_⟩
        show Result.ok (a.tmps.getD t undef) w = _
        rw [show a.tmps.getD t undef = G.val (.s t) [(0, 0)] from h0]
        simp [cval, vals, List.range_succ]
      · next ds' hd =>
        simp only [Option.some.injEq, Prod.mk.injEq] at hr; obtain ⟨rfl, rfl, rfl⟩ := hr
        rw [hd] at h0
        refine ⟨by simp [St.rows, hd, SV.rows], fun e _ e' => (by cases e'), fun e => (by cases e), ?_⟩
        show Result.ok (a.tmps.getD t undef) w = _
        rw [show a.tmps.getD t undef = _ from h0]
        rfl
      · cases hr
    · cases hr
  | cell t T =>
    simp only [retPlace] at hr
    split at hr
    · next ht =>
      split at hr
      · next k m hrd =>
        split at hr
        · next hk =>
          obtain ⟨hk1, hk2⟩ := hk
          split at hr
          · next ds' b' sz hvr hrow hsz =>
            split at hr
            · next hc =>
              simp only [Option.some.injEq, Prod.mk.injEq] at hr; obtain ⟨rfl, rfl, rfl⟩ := hr
              have hv := h.rd (.tmp t)
              rw [hrd] at hv
              have hva := (tells_one_iff.1 hv).1 hk2 _ ⟨k, ds', rfl, hvr, rfl, rfl⟩
              simp only [Act.eval] at hva
              obtain ⟨g1, g2, g3⟩ := h.vars k ds' hvr
              refine ⟨by simp [St.rows, hvr], fun e he e' => (by cases e'; omega), fun hb => ?_, ?_⟩
              · rcases hc.2 with e | e
                · rw [hb] at e; cases e
                · omega
              · simp only [hva, asAddr, Sem.run_bind, Sem.run_pure, Result.andThen_ok]
                cases b' with
                | true =>
                  have hu : ∃ d, P.underlying T = some d ∧ d.isRow = true := by
                    unfold isRowT at hrow
                    cases hu : P.underlying T with
                    | none => rw [hu] at hrow; cases hrow
                    | some d => rw [hu] at hrow; exact ⟨d, rfl, by cases d <;> simp_all [TypeDesc.isRow]⟩
                  obtain ⟨d, hu, hd⟩ := hu
                  have := run_loadVar_mid (P := P) w (G.blk k) 0 T (vals (fun _ j => G.val (.v k) [(0, j)]) 0 ds'.length) d (fun j v hj => by
                    have hlt := (List.getElem?_eq_some_iff.1 hj).1
                    rw [vals_length] at hlt
                    rw [vals_get hlt] at hj
                    simp only [Option.some.injEq] at hj; subst hj
                    rw [Nat.zero_add]; exact g3 j hlt) hu hd (by rw [vals_length, ← hc.1]; exact hsz)
                  exact this
                | false =>
                  have h1 : ds'.length = 1 := by
                    rcases hc.2 with e | e
                    · cases e
                    · omega
                  have hi : ∃ i, P.info? T = some i ∧ i.size = 1 := by
                    simp only [tsz, Option.map_eq_some_iff] at hsz
                    obtain ⟨i, hi, he⟩ := hsz
                    exact ⟨i, hi, by omega⟩
                  obtain ⟨i, hi, hi1⟩ := hi
                  have hcell := g3 0 (by omega)
                  have : cval false (vals (fun _ j => G.val (.v k) [(0, j)]) 0 ds'.length) = G.val (.v k) [(0, 0)] := by
                    rw [h1]; simp [cval, vals, List.range_succ]
                  rw [this]
                  simp [loadVar, isRowT_run hrow, load, Sem.run, hcell]
            · cases hr
          · cases hr
        · cases hr
      · cases hr
    · cases hr

def valOf (G : Gh) (x : Pl × Bool × List D) : Value := cval x.2.1 (vals (fun _ j => G.val x.1 [(0, j)]) 0 x.2.2.length)

theorem retPlaces_spec (h : R G σ a w) {n : Nat} (hn : σ.n = n) (hnb : n ≤ vbase) : ∀ (rs : List ResultVar) (L : List (Pl × Bool × List D)), retPlaces P σ n rs = some L →
    (∀ x ∈ L, σ.rows x.1 = [x.2.2] ∧ (∀ e, vbase ≤ e → x.1 ≠ .v e) ∧ (x.2.1 = false → x.2.2.length = 1)) ∧
    (rs.mapM (m := Sem) fun
      | .tmp t => pure (a.tmps.getD t undef)
      | .cell c t => do loadVar t (← asAddr (a.tmps.getD c undef))).run P w = .ok (L.map (valOf G)) w
  | [], L, hr => by simp [retPlaces] at hr; subst hr; exact ⟨fun x hx => by simp at hx, by simp⟩
  | r :: rs, L, hr => by
    simp only [retPlaces] at hr
    split at hr
    · next x xs h1 h2 =>
      simp only [Option.some.injEq] at hr; subst hr
      obtain ⟨q, b, ds⟩ := x
      obtain ⟨g1, g2, g3, g4⟩ := retPlace_spec h hn hnb h1
      obtain ⟨k1, k2⟩ := retPlaces_spec h hn hnb rs xs h2
      refine ⟨fun x hx => ?_, ?_⟩
      · rcases List.mem_cons.1 hx with rfl | hx
        · exact ⟨g1, g2, g3⟩
        · exact k1 x hx
      · rw [List.mapM_cons]
        rw [Sem.run_bind]
        have : Sem.run P (match r with
          | .tmp t => (pure (a.tmps.getD t undef) : Sem Value)
          | .cell c t => do loadVar t (← asAddr (a.tmps.getD c undef))) w = .ok (valOf G (q, b, ds)) w := g4
        cases r with
        | tmp t => simp only at this ⊢; rw [this, Result.andThen_ok, Sem.run_bind, k2]; rfl
        | cell c t => simp only at this ⊢; rw [this, Result.andThen_ok, Sem.run_bind, k2]; rfl
    · cases hr

def retV (G : Gh) : List (Pl × Bool × List D) → Value
  | [x] => valOf G x
  | l => .tuple (l.map (valOf G)).toArray

theorem results_run (h : R G σ a w) {n : Nat} (hn : σ.n = n) (hnb : n ≤ vbase) {fn : Func} {L : List (Pl × Bool × List D)} (hr : retPlaces P σ n fn.results.toList = some L) :
    (results fn a.tmps).run P w = .ok (retV G L) w := by
  obtain ⟨_, h2⟩ := retPlaces_spec h hn hnb _ _ hr
  unfold results
  rw [Sem.run_bind, Array.mapM_eq_mapM_toList]
  have h3 : Sem.run P (List.toArray <$> fn.results.toList.mapM (m := Sem) fun
      | .tmp t => pure (a.tmps.getD t undef)
      | .cell c t => do loadVar t (← asAddr (a.tmps.getD c undef))) w = .ok (L.map (valOf G)).toArray w := by
    rw [Sem.run_map, h2]; rfl
  have h4 : (Sem.run P (List.toArray <$> fn.results.toList.mapM (m := Sem) fun x => match x with
      | .tmp t => pure (a.tmps.getD t undef)
      | .cell c t => do loadVar t (← asAddr (a.tmps.getD c undef))) w) = _ := h3
  refine (congrArg (fun r => Result.andThen r _) h4).trans ?_
  simp only [Result.andThen_ok]
  cases L with
  | nil => rfl
  | cons x l => cases l with
    | nil => rfl
    | cons y l =>
      have : ¬ ((x :: y :: l).map (valOf G)).toArray.size = 1 := by simp
      rw [dif_neg this]
      rfl

theorem valOf_extD {f : Nat → Nat → Value} : ∀ (k : Nat) (L : List (Pl × Bool × List D)) (Y : List Pl), (∀ j x, L[j]? = some x → ∀ l, f (k + j) l = G.val x.1 [(0, l)]) →
    tvals f k (L.map fun x => (x.2.1, x.2.2.map D.extD)) = L.map (valOf G)
  | _, [], _, _ => rfl
  | k, x :: L, Y, h => by
    simp only [List.map_cons, tvals, List.length_map]
    rw [valOf_extD (k + 1) L Y (fun j y hy l => by rw [show k + 1 + j = k + (j + 1) by omega]; exact h (j + 1) y (by simpa using hy) l)]
    congr 1
    simp only [valOf, vals]
    congr 1
    refine List.map_congr_left fun l _ => ?_
    exact h 0 x rfl l

theorem retSV_cell {L : List (Pl × Bool × List D)} {k j : Nat} {x : D} (hL : ∀ x ∈ L, x.2.1 = false → x.2.2.length = 1) (hx : cellIn (retSV L).rows (k, j) = some x) :
    ∃ y z, L[k]? = some y ∧ y.2.2[j]? = some z ∧ x = z.extD := by
  obtain ⟨row, h1, h2⟩ := cellIn_some.1 hx
  unfold retSV at h1
  split at h1
  · next q ds =>
    cases k with
    | succ k => simp [SV.rows] at h1
    | zero =>
      simp [SV.rows] at h1; subst h1
      rw [List.getElem?_map, Option.map_eq_some_iff] at h2
      obtain ⟨z, h3, h4⟩ := h2
      exact ⟨_, z, rfl, h3, h4.symm⟩
  · next q d =>
    cases k with
    | succ k => simp [SV.rows] at h1
    | zero =>
      simp [SV.rows] at h1; subst h1
      cases j with
      | succ j => simp at h2
      | zero => simp at h2; exact ⟨_, d, rfl, rfl, h2.symm⟩
  · simp [SV.rows] at h1
  · simp only [SV.rows, List.map_map, List.getElem?_map, Option.map_eq_some_iff] at h1
    obtain ⟨y, h3, h4⟩ := h1
    simp only [Function.comp_apply] at h4; subst h4
    rw [List.getElem?_map, Option.map_eq_some_iff] at h2
    obtain ⟨z, h5, h6⟩ := h2
    exact ⟨y, z, h3, h5, h6.symm⟩

theorem extOut_cell {svs : List SV} {e : Nat} {π : Path} {x : D} (h : (pst svs (extOut σ)).cell (.v e) π = some x) :
    vbase ≤ e ∧ ((x = .dead ∧ ∃ ij, π = [ij]) ∨ (σ.cell (.v e) π = some x ∧ ((∃ ij, π = [ij]) → x.Nb))) := by
  cases π with
  | nil => simp [St.cell] at h
  | cons ij π =>
    simp only [St.cell, St.rows, pst, extOut] at h
    by_cases he : e < vbase
    · simp [he, cellIn] at h
    · simp only [if_neg he] at h
      refine ⟨by omega, ?_⟩
      cases hv : σ.vr e with
      | none => rw [hv] at h; simp [cellIn] at h
      | some bd =>
        obtain ⟨b, ds⟩ := bd
        rw [hv] at h
        simp only at h
        cases hc : cellIn [ds.map D.extD] ij with
        | none => rw [hc] at h; cases h
        | some y =>
          rw [hc] at h
          obtain ⟨z, hz, rfl⟩ := mapCell hc
          have hcz : cellIn (σ.rows (.v e)) ij = some z := by simp [St.rows, hv, hz]
          rcases extD_atU h with ⟨rfl, e1⟩ | ⟨hne, e1⟩
          · rcases extD_or z with e' | ⟨e', hn⟩
            · left; exact ⟨e1.trans e', ij, rfl⟩
            · right
              rw [e1, e']
              exact ⟨by simp [St.cell, hcz, D.atU], fun _ => hn⟩
          · right
            exact ⟨by simp [St.cell, hcz, e1], fun ⟨ij', e'⟩ => by simp only [List.cons.injEq] at e'; exact absurd e'.2 hne⟩

/-- THE STATE IN WHICH A FUNCTION IS LEFT. -/
theorem R.out (h : R G σ a w) {L : List (Pl × Bool × List D)} (hL : ∀ x ∈ L, σ.rows x.1 = [x.2.2] ∧ (∀ e, vbase ≤ e → x.1 ≠ .v e) ∧ (x.2.1 = false → x.2.2.length = 1)) (hY : (L.map (·.1)).Nodup) :
    R (G.out (L.map (·.1))) (pst [retSV L] (extOut σ)) { tmps := #[retV G L], defers := [] } w := by
  have hYg : ∀ (k : Nat) y, L[k]? = some y → (L.map (·.1))[k]? = some y.1 := fun k y hy => by simp [hy]
  have hidx : ∀ (k : Nat) y, L[k]? = some y → idx (L.map (·.1)) y.1 = some k := fun k y hy => idx_get hY (hYg k y hy)
  have hval0 : ∀ (k : Nat) y, L[k]? = some y → ∀ j ρ, (G.out (L.map (·.1))).val (.s 0) ((k, j) :: ρ) = G.val y.1 ((0, j) :: ρ) := fun k y hy j ρ => by
    simp only [Gh.out, if_true, hYg k y hy]
  have hrow1 : ∀ y ∈ L, ∀ i j x, cellIn (σ.rows y.1) (i, j) = some x → i = 0 := fun y hy i j x hx => by
    rw [(hL y hy).1] at hx
    obtain ⟨row, h1, _⟩ := cellIn_some.1 hx
    cases i with
    | zero => rfl
    | succ i => simp at h1
  have hnv : ∀ e, vbase ≤ e → idx (L.map (·.1)) (.v e) = Option.none := fun e he => by
    rw [idx_none]
    intro hm
    obtain ⟨y, hy, e1⟩ := List.mem_map.1 hm
    exact (hL y hy).2.1 e he e1
  -- cells of the result
  have hslot : ∀ {i π x}, (pst [retSV L] (extOut σ)).cell (.s i) π = some x → i = 0 ∧ ∃ k j ρ y, π = (k, j) :: ρ ∧ L[k]? = some y ∧
      ((x = .dead ∧ ρ = []) ∨ (σ.cell y.1 ((0, j) :: ρ) = some x ∧ (ρ = [] → x.Nb))) := by
    intro i π x hx
    obtain ⟨sv, ⟨k, j⟩, ρ, z0, q1, rfl, q2, q3⟩ := pst_slot hx
    cases i with
    | succ i => simp at q1
    | zero =>
      simp at q1; subst q1
      obtain ⟨y, z, r1, r2, rfl⟩ := retSV_cell (fun x hx => (hL x hx).2.2) q2
      have hym := List.mem_of_getElem? r1
      have hcz : cellIn (σ.rows y.1) (0, j) = some z := by rw [(hL y hym).1]; exact cellIn_some.2 ⟨_, rfl, r2⟩
      refine ⟨rfl, k, j, ρ, y, rfl, r1, ?_⟩
      rcases extD_atU q3 with ⟨rfl, e1⟩ | ⟨hne, e1⟩
      · rcases extD_or z with e' | ⟨e', hn⟩
        · left; exact ⟨e1.trans e', rfl⟩
        · right
          rw [e1, e']
          exact ⟨by simp [St.cell, hcz, D.atU], fun _ => hn⟩
      · right
        exact ⟨by simp [St.cell, hcz, e1], fun e' => absurd e' hne⟩
  have hnb : ∀ q ij ρ x, σ.cell q (ij :: ρ) = some x → (ρ = [] → x.Nb) → x.Nb := fun q ij ρ x hc hn => by
    cases ρ with
    | nil => exact hn rfl
    | cons kl ρ =>
      have := h.deep q ij kl ρ x hc
      exact ⟨fun _ _ _ _ e => (by rw [e] at this; cases this), fun _ _ _ _ _ e => (by rw [e] at this; cases this)⟩
  -- carried over
  have hcar : ∀ (p q : Pl) (π π' : Path) (x : D), σ.cell q π = some x → x.Nb → (∀ ρ, (G.out (L.map (·.1))).val p (π' ++ ρ) = G.val q (π ++ ρ)) →
      (∀ b, G.own b = some (q, π) → (G.out (L.map (·.1))).own b = some (p, π')) → Loc (G.out (L.map (·.1))) w (pst [retSV L] (extOut σ)) p π' x := by
    intro p q π π' x hc hn hv ho
    have hl := h.loc q π x hc
    have hv0 : (G.out (L.map (·.1))).val p π' = G.val q π := by have := hv []; simpa using this
    by_cases hio : x.isOwn = true
    · cases x with
      | sl u sz rows =>
        cases u with
        | false => simp [D.isOwn] at hio
        | true => exact LocOwn.port hl hv0 (fun ij => hv [ij]) ho (fun b _ => SameAt.refl w b)
      | _ => simp [D.isOwn] at hio
    · refine Loc.ofV ?_
      rw [hv0]
      have hlv := hl.toV (by simpa using hio)
      cases x with
      | lit u => exact hlv
      | nil => exact hlv
      | dead => trivial
      | sl u sz rows => cases u with
        | true => simp [D.isOwn] at hio
        | false => exact (show RO G.imm w _ _ from hlv)
      | raddr row => exact hlv
      | clo g caps => exact hlv
      | bor q ρ n rg => exact absurd rfl (hn.1 q ρ n rg)
      | addr q ρ i j n => exact absurd rfl (hn.2 q ρ i j n)
  refine ⟨rfl, rfl, fun i hi => ?_, fun k ds hk => ?_, fun p π x hx => ?_, fun p ij kl ρ x hx => ?_, fun b hb => ?_, h.immLt, fun b q hb => ?_, fun _ => Nat.one_pos, fun _ _ => Nat.one_pos, fun _ _ => Nat.one_pos, fun p π q ρ n rg hx => ?_, fun p π q ρ i j n hx => ?_⟩
  · have : i = 0 := by simp [pst] at hi; exact hi
    subst this
    show SVrel _ (retV G L) (retSV L)
    have htup : ∀ L' : List (Pl × Bool × List D), L' = L → Value.tuple (L'.map (valOf G)).toArray = Value.tuple (tvals (fun k j => (G.out (L.map (·.1))).val (.s 0) [(k, j)]) 0 (L'.map fun x => (x.2.1, x.2.2.map D.extD))).toArray := by
      rintro L' rfl
      rw [valOf_extD (G := G) 0 L' [] (fun j x hx l => by rw [Nat.zero_add]; exact hval0 j x hx l [])]
    unfold retSV
    split
    · next q ds =>
      simp only [retV, valOf, SVrel, List.length_map, cval, if_true]
      congr 2
    · next q d =>
      simp only [retV, valOf, SVrel]
      simp [cval, vals, List.range_succ]
      exact (hval0 0 _ rfl 0 []).symm
    · trivial
    · next hne1 hne2 hne3 =>
      have hr : retV G L = .tuple (L.map (valOf G)).toArray := by
        cases L with
        | nil => rfl
        | cons x l => cases l with
          | cons y l => rfl
          | nil =>
            obtain ⟨q, b, ds⟩ := x
            exfalso
            cases b with
            | true => exact hne1 q ds rfl
            | false => exact hne3 q ds rfl
      rw [hr]
      exact htup L rfl
  · have hk' : extOut σ k = some (true, ds) := hk
    simp only [extOut] at hk'
    split at hk'
    · cases hk'
    · next he =>
      split at hk'
      · next b ds0 hv =>
        simp only [Option.some.injEq, Prod.mk.injEq] at hk'
        obtain ⟨rfl, rfl⟩ := hk'
        obtain ⟨g1, g2, g3⟩ := h.vars k ds0 hv
        refine ⟨?_, by rw [List.length_map]; exact g2, fun j hj => g3 j (by simpa using hj)⟩
        simp only [Gh.out, g1, hnv k (by omega)]
        rw [if_pos (by omega)]
      · cases hk'
  · cases p with
    | s i =>
      obtain ⟨rfl, k, j, ρ, y, rfl, h1, h2⟩ := hslot hx
      rcases h2 with ⟨rfl, _⟩ | ⟨h2, h3⟩
      · trivial
      · refine hcar _ y.1 ((0, j) :: ρ) _ x h2 (hnb _ _ _ _ h2 h3) (fun τ => hval0 k y h1 j _) (fun b hb => ?_)
        simp only [Gh.out, hb, hidx k y h1]
    | v e =>
      obtain ⟨he, h2⟩ := extOut_cell hx
      rcases h2 with ⟨rfl, _⟩ | ⟨h2, h3⟩
      · trivial
      · cases π with
        | nil => simp [St.cell] at h2
        | cons ij π =>
          refine hcar _ (.v e) (ij :: π) _ x h2 (hnb _ _ _ _ h2 (fun e' => h3 ⟨ij, by rw [e']⟩)) (fun τ => rfl) (fun b hb => ?_)
          simp only [Gh.out, hb, hnv e he, if_pos he]
  · cases p with
    | s i =>
      obtain ⟨rfl, k, j, τ, y, e1, h1, h2⟩ := hslot hx
      simp only [List.cons.injEq] at e1
      obtain ⟨_, rfl⟩ := e1
      rcases h2 with ⟨_, e⟩ | ⟨h2, _⟩
      · cases e
      · exact h.deep _ _ _ _ _ h2
    | v e =>
      obtain ⟨he, h2⟩ := extOut_cell hx
      rcases h2 with ⟨_, _, e⟩ | ⟨h2, _⟩
      · simp at e
      · exact h.deep _ _ _ _ _ h2
  · simp only [Gh.out, h.immOwn b hb]
  · simp only [Gh.out] at hb
    cases ho : G.own b with
    | none => rw [ho] at hb; cases hb
    | some xp => exact h.ownLt b _ ho
  · cases p with
    | s i =>
      obtain ⟨rfl, k, j, τ, y, rfl, h1, h2⟩ := hslot hx
      rcases h2 with ⟨e, _⟩ | ⟨h2, h3⟩
      · cases e
      · exact absurd rfl ((hnb _ _ _ _ h2 h3).1 _ _ _ _)
    | v e =>
      obtain ⟨he, h2⟩ := extOut_cell hx
      rcases h2 with ⟨e, _⟩ | ⟨h2, h3⟩
      · cases e
      · cases π with
        | nil => simp [St.cell] at h2
        | cons ij π => exact absurd rfl ((hnb _ _ _ _ h2 (fun e' => h3 ⟨ij, by rw [e']⟩)).1 _ _ _ _)
  · cases p with
    | s i =>
      obtain ⟨rfl, k, j', τ, y, rfl, h1, h2⟩ := hslot hx
      rcases h2 with ⟨e, _⟩ | ⟨h2, h3⟩
      · cases e
      · exact absurd rfl ((hnb _ _ _ _ h2 h3).2 _ _ _ _ _)
    | v e =>
      obtain ⟨he, h2⟩ := extOut_cell hx
      rcases h2 with ⟨e, _⟩ | ⟨h2, h3⟩
      · cases e
      · cases π with
        | nil => simp [St.cell] at h2
        | cons ij π => exact absurd rfl ((hnb _ _ _ _ h2 (fun e' => h3 ⟨ij, by rw [e']⟩)).2 _ _ _ _ _)

/-- The state at a function's entry. -/
def entry (args : List SV) (E : Nat → Option (Bool × List D)) (n : Nat) : St := { pst args E with n := n }

theorem R.enter {args : List SV} {E : Nat → Option (Bool × List D)} {vs : List Value} (hl : vs.length = args.length) (h : R G (pst args E) { tmps := vs.toArray, defers := [] } w) {n : Nat} (hn : args.length ≤ n) :
    R G (entry args E n) { tmps := vs.toArray ++ Array.replicate (n - vs.toArray.size) undef, defers := [] } w := by
  have hcell : ∀ p π, (entry args E n).cell p π = (pst args E).cell p π := fun p π => St.cell_congr (by cases p <;> rfl) π
  refine ⟨by simp [entry, hl]; omega, rfl, fun i hi => ?_, h.vars, fun p π x hx => ?_, fun p ij kl ρ x hx => h.deep p ij kl ρ x (by rw [← hcell]; exact hx), h.immOwn, h.immLt, h.ownLt, h.stA, h.stB, h.stC,
    fun p π q ρ n rg hx => h.stBor p π q ρ n rg (by rw [← hcell]; exact hx), fun p π q ρ i j n hx => h.stAddr p π q ρ i j n (by rw [← hcell]; exact hx)⟩
  · by_cases hlt : i < args.length
    · have h0 := h.slots i (by simpa [pst] using hlt)
      have e1 : (vs.toArray ++ Array.replicate (n - vs.toArray.size) undef).getD i undef = vs.toArray.getD i undef := by
        simp only [Array.getD_eq_getD_getElem?]
        rw [Array.getElem?_append_left (by simp; omega)]
      show SVrel _ ((vs.toArray ++ Array.replicate (n - vs.toArray.size) undef).getD i undef) _
      rw [e1]; exact h0
    · have : (entry args E n).sl i = .none := by simp [entry, pst, List.getElem?_eq_none (show args.length ≤ i by omega)]
      rw [this]; trivial
  · have hl' := h.loc p π x (by rw [← hcell]; exact hx)
    by_cases hio : x.isOwn = true
    · cases x with
      | sl u sz rows => cases u with
        | false => simp [D.isOwn] at hio
        | true => exact hl'
      | _ => simp [D.isOwn] at hio
    · refine Loc.ofV ((hl'.toV (by simpa using hio)).carry (fun _ hb => hb) (fun b _ => SameAt.refl w b) ?_ ?_)
      · intro q ρ m rg e hs sz rows hc
        exact ⟨hs, ⟨rows, by rw [← hcell]; exact hc⟩, rfl⟩
      · intro q ρ i j m e hs ad hA
        refine ⟨hs, hA.congr (fun _ k ds _ hk => ⟨⟨ds, hk⟩, rfl⟩) (fun _ sz rows hc => ⟨⟨rows, by rw [← hcell]; exact hc⟩, rfl⟩)⟩

/-- Behind a function's body. -/
def endQ (P : Program) (fn : Func) (Q : SV → (Nat → Option (Bool × List D)) → Prop) (e : Exit) (σ : St) : Prop :=
  match e with
  | .normal | .ret => ∃ L, retPlaces P σ fn.ntmps fn.results.toList = some L ∧ (L.map (·.1)).Nodup ∧ Q (retSV L) (extOut σ)
  | _ => False

theorem AC_of {f : FuncId} {fn : Func} {c : Code} {args : List SV} {E : Nat → Option (Bool × List D)} {Q : SV → (Nat → Option (Bool × List D)) → Prop} (hf : P.funcs[f]? = some fn) (hb : fn.body = some c)
    (hn : args.length ≤ fn.ntmps) (hnb : fn.ntmps ≤ vbase) (h : ∀ G a w, R G (entry args E fn.ntmps) a w → c.wp P (lift G w (entry args E fn.ntmps) (endQ P fn Q)) a w) : AC P f args E Q := by
  intro G vs w hl hR
  refine calls_of_wp hf hb (wp_mono (h G _ w (hR.enter hl hn)) fun e a' w' hlift => ?_)
  obtain ⟨σ', G', h1, h2, h3, h4, h5⟩ := hlift
  have key : ∀ L, retPlaces P σ' fn.ntmps fn.results.toList = some L → (L.map (·.1)).Nodup → Q (retSV L) (extOut σ') → a'.defers = [] ∧ ∃ v, (results fn a'.tmps).run P w' = .ok v w' ∧ ACpost G w E Q (.returned v) w' := by
    intro L g1 g2 g3
    have hn' : σ'.n = fn.ntmps := h5.n
    refine ⟨h3.defers, _, results_run h3 hn' hnb g1, retSV L, extOut σ', G'.out (L.map (·.1)), g3, h3.out (retPlaces_spec h3 hn' hnb _ _ g1).1 g2, ?_, fun e he => ⟨h5.blk e (by show fn.ntmps ≤ e; omega), fun ds' hds => ?_⟩⟩
    · refine ⟨h4.os, h4.tape, h4.output, h4.size, fun b hb h0 => ?_, h4.imm, h4.immB⟩
      obtain ⟨k1, k2⟩ := h4.free b hb h0
      exact ⟨k1, by simp only [Gh.out, k2]⟩
    · simp only [extOut] at hds
      split at hds
      · cases hds
      · split at hds
        · next b ds0 hv =>
          simp only [Option.some.injEq, Prod.mk.injEq] at hds
          obtain ⟨rfl, _⟩ := hds
          exact h5.fl e (by show fn.ntmps ≤ e; omega) ds0 hv
        · cases hds
  cases e with
  | normal => obtain ⟨L, g1, g2, g3⟩ := h1; exact key L g1 g2 g3
  | ret => obtain ⟨L, g1, g2, g3⟩ := h1; exact key L g1 g2 g3
  | exit id => exact h1.elim
  | goto l => simp at h2
  | panic ch => simp at h2
  | outgrown => simp at h2

end
end Go.AI

/-
  The abstract interpreter, part Zb: what is to be shown of a piece of code, as a rule for each of its kinds; states that say less.
-/
namespace Go.AI
open Go.RowKit

/-! ### States that say less -/
def All2 {α β : Type} (R : α → β → Prop) : List α → List β → Prop
  | [], [] => True
  | a :: l, b :: l' => R a b ∧ All2 R l l'
  | _, _ => False

/-- The datum d', under fresh stamps, says no more than d. -/
def D.le (σ : St) (d : D) : D → Prop
  | .dead => True
  | .bor q π n rg => n = 0 ∧ ∃ m, d = .bor q π m rg ∧ σ.stp q π = m
  | .addr q π i j n => n = 0 ∧ ∃ m, d = .addr q π i j m ∧ σ.stp q π = m
  | d' => d = d'

def SV.le (σ : St) : SV → SV → Prop
  | _, .none => True
  | .one d, .one d' => d.le σ d'
  | .agg ds, .agg ds' => All2 (D.le σ) ds ds'
  | .tup cs, .tup cs' => All2 (fun c c' => c.1 = c'.1 ∧ All2 (D.le σ) c.2 c'.2) cs cs'
  | _, _ => False

structure Le (σ τ : St) : Prop where
  n : τ.n = σ.n
  sl : ∀ i, i < σ.n → (σ.sl i).le σ (τ.sl i)
  out : ∀ i, σ.n ≤ i → τ.sl i = .none
  vr : ∀ k b ds', τ.vr k = some (b, ds') → ∃ ds, σ.vr k = some (b, ds) ∧ All2 (D.le σ) ds ds'
  sa : ∀ k, τ.sa k = 0
  sb : ∀ p ij, τ.sb p ij = 0
  sc : ∀ p ij, τ.sc p ij = 0
  tick : τ.tick = 1

theorem le_own {σ : St} {d d' : D} (h : d.le σ d') (ho : d'.isOwn = true) : d = d' := by
  cases d' with
  | sl u sz rows => exact h
  | _ => simp [D.isOwn] at ho

theorem le_atU {σ : St} {d d' : D} (h : d.le σ d') {ij : Nat × Nat} {ρ : Path} {x : D} (hx : d'.atU (ij :: ρ) = some x) : d.atU (ij :: ρ) = some x := by
  obtain ⟨sz, rows, e⟩ := atU_cons hx
  subst e
  rw [le_own h rfl]; exact hx

theorem forall₂_get {α β : Type} {R : α → β → Prop} : ∀ {l : List α} {l' : List β}, All2 R l l' → ∀ {j : Nat} {y : β}, l'[j]? = some y → ∃ x, l[j]? = some x ∧ R x y
  | [], [], _, j, y, h => by simp at h
  | [], _ :: _, h0, j, y, h => h0.elim
  | _ :: _, [], h0, j, y, h => h0.elim
  | a :: l, b :: l', h0, 0, y, h => by simp at h; subst h; exact ⟨_, rfl, h0.1⟩
  | a :: l, b :: l', h0, j + 1, y, h => by
    simp at h
    obtain ⟨x, h3, h4⟩ := forall₂_get h0.2 h
    exact ⟨x, by simpa using h3, h4⟩

theorem forall₂_len {α β : Type} {R : α → β → Prop} : ∀ {l : List α} {l' : List β}, All2 R l l' → l.length = l'.length
  | [], [], _ => rfl
  | [], _ :: _, h0 => h0.elim
  | _ :: _, [], h0 => h0.elim
  | a :: l, b :: l', h0 => by simp [forall₂_len h0.2]

theorem SV.le_cell {σ : St} {sv sv' : SV} (h : sv.le σ sv') {ij : Nat × Nat} {y : D} (hy : cellIn sv'.rows ij = some y) : ∃ x, cellIn sv.rows ij = some x ∧ x.le σ y := by
  obtain ⟨k, j⟩ := ij
  obtain ⟨row, h1, h2⟩ := cellIn_some.1 hy
  cases sv' with
  | none => simp [SV.rows] at h1
  | one d' =>
    cases sv with
    | one d =>
      cases k with
      | succ k => simp [SV.rows] at h1
      | zero =>
        simp [SV.rows] at h1; subst h1
        cases j with
        | succ j => simp at h2
        | zero => simp at h2; subst h2; exact ⟨d, rfl, h⟩
    | _ => exact h.elim
  | agg ds' =>
    cases sv with
    | agg ds =>
      cases k with
      | succ k => simp [SV.rows] at h1
      | zero =>
        simp [SV.rows] at h1; subst h1
        obtain ⟨x, h3, h4⟩ := forall₂_get (show All2 (D.le σ) ds ds' from h) h2
        exact ⟨x, cellIn_some.2 ⟨ds, rfl, h3⟩, h4⟩
    | _ => exact h.elim
  | tup cs' =>
    cases sv with
    | tup cs =>
      simp only [SV.rows, List.getElem?_map, Option.map_eq_some_iff] at h1
      obtain ⟨c', h3, rfl⟩ := h1
      obtain ⟨c, h4, _, h5⟩ := forall₂_get (show All2 _ cs cs' from h) h3
      obtain ⟨x, h6, h7⟩ := forall₂_get h5 h2
      exact ⟨x, cellIn_some.2 ⟨c.2, by simp [SV.rows, h4], h6⟩, h7⟩
    | _ => exact h.elim

section
variable {P : Program} {G : Gh} {σ : St} {a : Act} {w : World} {o : Oper}

theorem tvals_le {f : Nat → Nat → Value} : ∀ {cs cs' : List (Bool × List D)} (k : Nat), All2 (fun c c' => c.1 = c'.1 ∧ All2 (D.le σ) c.2 c'.2) cs cs' → tvals f k cs' = tvals f k cs
  | [], [], _, _ => rfl
  | [], _ :: _, _, h => h.elim
  | _ :: _, [], _, h => h.elim
  | (b, ds) :: cs, (b', ds') :: cs', k, ⟨⟨e1, e2⟩, h2⟩ => by
    simp only at e1 e2
    simp only [tvals]
    rw [tvals_le (k + 1) h2, e1, forall₂_len e2]

theorem le_cell {τ : St} (hle : Le σ τ) {p : Pl} {π : Path} {y : D} (hy : τ.cell p π = some y) : ∃ x, σ.cell p π = some x ∧ ((∃ ij, π = [ij] ∧ x.le σ y) ∨ ((∀ ij, π ≠ [ij]) ∧ x = y)) := by
  cases π with
  | nil => simp [St.cell] at hy
  | cons ij ρ =>
    simp only [St.cell] at hy
    cases hc : cellIn (τ.rows p) ij with
    | none => rw [hc] at hy; cases hy
    | some z =>
      rw [hc] at hy
      have hz : ∃ x, cellIn (σ.rows p) ij = some x ∧ x.le σ z := by
        cases p with
        | s i =>
          simp only [St.rows] at hc ⊢
          by_cases hi : i < σ.n
          · exact SV.le_cell (hle.sl i hi) hc
          · rw [hle.out i (by omega)] at hc; simp [SV.rows, cellIn] at hc
        | v k =>
          simp only [St.rows] at hc ⊢
          cases hv : τ.vr k with
          | none => rw [hv] at hc; simp [cellIn] at hc
          | some bd =>
            obtain ⟨b, ds'⟩ := bd
            rw [hv] at hc
            obtain ⟨ds, h1, h2⟩ := hle.vr k b ds' hv
            rw [h1]
            obtain ⟨k', j⟩ := ij
            obtain ⟨row, h3, h4⟩ := cellIn_some.1 hc
            cases k' with
            | succ k' => simp at h3
            | zero =>
              simp at h3; subst h3
              obtain ⟨x, h5, h6⟩ := forall₂_get h2 h4
              exact ⟨x, cellIn_some.2 ⟨ds, rfl, h5⟩, h6⟩
      obtain ⟨x, h1, h2⟩ := hz
      cases ρ with
      | nil =>
        simp [D.atU] at hy; subst hy
        exact ⟨x, by simp [St.cell, h1, D.atU], .inl ⟨ij, rfl, h2⟩⟩
      | cons kl ρ =>
        refine ⟨y, by simp [St.cell, h1, le_atU h2 hy], .inr ⟨fun ij' => by simp, rfl⟩⟩

theorem le_stp {τ : St} (hle : Le σ τ) (p : Pl) (π : Path) : τ.stp p π = 0 := by
  rcases π with _ | ⟨ij, _ | ⟨kl, π⟩⟩
  · cases p with
    | s i => rfl
    | v k => exact hle.sa k
  · exact hle.sb p ij
  · exact hle.sc p ij

/-- A state may be replaced by one that says less. -/
theorem R.le (h : R G σ a w) {τ : St} (hle : Le σ τ) : R G τ a w := by
  have hown : ∀ {p π sz rows}, τ.cell p π = some (.sl true sz rows) → σ.cell p π = some (.sl true sz rows) := fun {p π sz rows} hc => by
    obtain ⟨x, h1, h2⟩ := le_cell hle hc
    rcases h2 with ⟨_, _, h2⟩ | ⟨_, h2⟩
    · rw [h1, le_own h2 rfl]
    · rw [h1, h2]
  have hdat : ∀ {u x y}, LocV G w σ u x → x.le σ y → LocV G w τ u y := fun {u x y} hv hl => by
    have hcar : ∀ {x'}, LocV G w σ u x' → (∀ q ρ n rg, x' ≠ .bor q ρ n rg) → (∀ q ρ i j n, x' ≠ .addr q ρ i j n) → LocV G w τ u x' := fun {x'} hv' n1 n2 =>
      hv'.carry (fun _ hb => hb) (fun b _ => SameAt.refl w b) (fun q ρ n rg e => absurd e (n1 q ρ n rg)) (fun q ρ i j n e => absurd e (n2 q ρ i j n))
    cases y with
    | dead => trivial
    | bor q π n rg =>
      obtain ⟨rfl, m, rfl, hm⟩ := hl
      intro _ sz rows hc
      exact hv hm sz rows (hown hc)
    | addr q π i j n =>
      obtain ⟨rfl, m, rfl, hm⟩ := hl
      intro _ ad hA
      refine hv hm ad (hA.congr (fun _ k ds _ hk => ?_) (fun _ sz rows hc => ⟨⟨rows, hown hc⟩, rfl⟩))
      obtain ⟨ds0, h1, _⟩ := hle.vr k true ds hk
      exact ⟨⟨ds0, h1⟩, rfl⟩
    | _ => rw [show x = _ from hl] at hv; exact hcar hv (fun _ _ _ _ e => by cases e) (fun _ _ _ _ _ e => by cases e)
  have hown' : ∀ {p π d}, τ.cell p π = some d → Loc G w τ p π d := fun {p π d} hd => by
    obtain ⟨x, h1, h2⟩ := le_cell hle hd
    have hl := h.loc p π x h1
    by_cases ho : d.isOwn = true
    · have e : x = d := by
        rcases h2 with ⟨_, _, h2⟩ | ⟨_, h2⟩
        · exact le_own h2 ho
        · exact h2
      subst e
      cases x with
      | sl u sz rows => cases u with
        | true => exact hl
        | false => simp [D.isOwn] at ho
      | _ => simp [D.isOwn] at ho
    · refine Loc.ofV ?_
      have hxo : x.isOwn = true → d = .dead := fun hx => by
        rcases h2 with ⟨_, _, h2⟩ | ⟨_, h2⟩
        · cases d with
          | dead => rfl
          | bor q π n rg => obtain ⟨_, m, e, _⟩ := h2; rw [e] at hx; simp [D.isOwn] at hx
          | addr q π i j n => obtain ⟨_, m, e, _⟩ := h2; rw [e] at hx; simp [D.isOwn] at hx
          | _ => rw [show x = _ from h2] at hx; exact absurd hx ho
        · rw [h2] at hx; exact absurd hx ho
      by_cases hx : x.isOwn = true
      · rw [hxo hx]; trivial
      · have hv := hl.toV (by simpa using hx)
        rcases h2 with ⟨_, _, h2⟩ | ⟨hne, h2⟩
        · exact hdat hv h2
        · subst h2
          refine hdat hv ?_
          cases π with
          | nil => simp [St.cell] at h1
          | cons ij π =>
            cases π with
            | nil => exact absurd rfl (hne ij)
            | cons kl π =>
              have := h.deep p ij kl π x h1
              cases x <;> first | rfl | cases this
  refine ⟨h.size.trans hle.n.symm, h.defers, fun i hi => ?_, fun k ds hk => ?_, fun p π d hd => hown' hd, fun p ij kl ρ d hd => ?_, h.immOwn, h.immLt, h.ownLt, fun k => ?_, fun p ij => ?_, fun p ij => ?_, fun p π q ρ n rg hd => ?_, fun p π q ρ i j n hd => ?_⟩
  · rw [hle.n] at hi
    have h0 := h.slots i hi
    have h1 := hle.sl i hi
    cases hτ : τ.sl i with
    | none => trivial
    | one d' =>
      cases hσ : σ.sl i with
      | one d => rw [hσ] at h0; exact h0
      | _ => rw [hσ, hτ] at h1; exact h1.elim
    | agg ds' =>
      cases hσ : σ.sl i with
      | agg ds =>
        rw [hσ] at h0; rw [hσ, hτ] at h1
        simp only [SVrel] at h0 ⊢
        rw [← forall₂_len (show All2 _ ds ds' from h1)]; exact h0
      | _ => rw [hσ, hτ] at h1; exact h1.elim
    | tup cs' =>
      cases hσ : σ.sl i with
      | tup cs =>
        rw [hσ] at h0; rw [hσ, hτ] at h1
        simp only [SVrel] at h0 ⊢
        rw [tvals_le 0 h1]; exact h0
      | _ => rw [hσ, hτ] at h1; exact h1.elim
  · obtain ⟨ds0, h1, h2⟩ := hle.vr k true ds hk
    obtain ⟨g1, g2, g3⟩ := h.vars k ds0 h1
    rw [forall₂_len h2] at g2
    exact ⟨g1, g2, fun j hj => g3 j (by rw [forall₂_len h2]; exact hj)⟩
  · obtain ⟨x, h1, h2⟩ := le_cell hle hd
    rcases h2 with ⟨_, e, _⟩ | ⟨_, h2⟩
    · simp at e
    · subst h2; exact h.deep p ij kl ρ x h1
  · rw [hle.sa, hle.tick]; omega
  · rw [hle.sb, hle.tick]; omega
  · rw [hle.sc, hle.tick]; omega
  · rw [hle.tick]
    obtain ⟨x, h1, h2⟩ := le_cell hle hd
    rcases h2 with ⟨_, _, h2⟩ | ⟨hne, rfl⟩
    · have := h2.1; omega
    · cases π with
      | nil => simp [St.cell] at h1
      | cons ij π => cases π with
        | nil => exact absurd rfl (hne ij)
        | cons kl π => have := h.deep p ij kl π _ h1; cases this
  · rw [hle.tick]
    obtain ⟨x, h1, h2⟩ := le_cell hle hd
    rcases h2 with ⟨_, _, h2⟩ | ⟨hne, rfl⟩
    · have := h2.1; omega
    · cases π with
      | nil => simp [St.cell] at h1
      | cons ij π => cases π with
        | nil => exact absurd rfl (hne ij)
        | cons kl π => have := h.deep p ij kl π _ h1; cases this

theorem Le.fx {τ : St} (hle : Le σ τ) : Fx σ τ G G := ⟨hle.n, fun _ _ => rfl, fun i _ ds' hd => ⟨by obtain ⟨ds, h1, _⟩ := hle.vr i false ds' hd; exact ⟨ds, h1⟩, fun _ => rfl⟩⟩

/-! ### Rules -/
/-- From this state the code comes to its end, in a state of which Q holds. -/
def SWP (P : Program) (c : Code) (Q : Exit → St → Prop) (σ : St) : Prop := ∀ G a w, R G σ a w → c.wp P (lift G w σ Q) a w

variable {Q : Exit → St → Prop}

theorem swp_awp {c : Code} (h : awp P c Q σ) : SWP P c Q σ := awp_sound c Q σ h

theorem lift_mono {w0 : World} {G0 : Gh} {σ0 : St} {Q Q' : Exit → St → Prop} (hq : ∀ e σ, Q e σ → Q' e σ) {e : Exit} {a' : Act} {w' : World} (h : lift G0 w0 σ0 Q e a' w') : lift G0 w0 σ0 Q' e a' w' := by
  obtain ⟨σ', G', h1, h2⟩ := h
  exact ⟨σ', G', hq _ _ h1, h2⟩

theorem SWP.mono {c : Code} {Q' : Exit → St → Prop} (h : SWP P c Q σ) (hq : ∀ e σ, Q e σ → Q' e σ) : SWP P c Q' σ :=
  fun G a w hR => wp_mono (h G a w hR) fun e a' w' hl => lift_mono hq hl

theorem swp_le {c : Code} {τ : St} (hle : Le σ τ) (h : SWP P c Q τ) : SWP P c Q σ :=
  fun G a w hR => wp_mono (h G a w (hR.le hle)) fun e a' w' hl => lift_trans (Kf.refl G w) hle.fx hl

theorem swp_seq {x y : Code} (h : SWP P x (thenS (SWP P y Q) Q) σ) : SWP P (.seq x y) Q σ := fun G a w hR =>
  wp_seq (wp_mono (h G a w hR) fun e a' w' hl => by
    obtain ⟨σ', G', h1, h2, h3, h4, h5⟩ := hl
    cases e with
    | normal => exact wp_mono (h1 G' a' w' h3) fun e a'' w'' hl => lift_trans h4 h5 hl
    | exit id => exact ⟨σ', G', h1, h2, h3, h4, h5⟩
    | ret => exact ⟨σ', G', h1, h2, h3, h4, h5⟩
    | _ => simp at h2)

theorem swp_region {id : Nat} {ops : Array Oper} (h : awpOps P ops (Q .normal) ops.toList σ) : SWP P (.region id ops false) Q σ := swp_awp (c := .region id ops false) h

theorem swp_cond {c : Operand} {x y : Code} {t : Bool} (hc : σ.rd c = .one (.lit (.bool t))) (h1 : t = true → SWP P x Q σ) (h2 : t = false → SWP P y Q σ) : SWP P (.cond c x y) Q σ := fun G a w hR => by
  refine wp_cond (litOf hR hc) ?_
  cases t with
  | true => exact h1 rfl G a w hR
  | false => exact h2 rfl G a w hR

theorem swp_block {id : Nat} {c : Code} (h : SWP P c (inBlockS id Q) σ) : SWP P (.block id c) Q σ := fun G a w hR =>
  wp_block (wp_mono (h G a w hR) fun e a' w' hl => by
    obtain ⟨σ', G', h1, h2, h3, h4, h5⟩ := hl
    cases e with
    | normal => exact ⟨σ', G', h1, h2, h3, h4, h5⟩
    | exit id' =>
      simp only [inBlockS] at h1
      simp only [Exit.inBlock]
      split at h1
      · next he => rw [if_pos he]; exact ⟨σ', G', h1, .inl rfl, h3, h4, h5⟩
      · next he => rw [if_neg he]; exact ⟨σ', G', h1, h2, h3, h4, h5⟩
    | ret => exact ⟨σ', G', h1, h2, h3, h4, h5⟩
    | _ => simp at h2)

/-- A LOOP: states, numbered; each round comes to a state with a smaller measure, or leaves. -/
theorem swp_loop {c : Code} {ι : Type} (I : ι → St) (μ : ι → Nat) (i0 : ι) (h0 : Le σ (I i0)) (round : ∀ i, SWP P c (thenS (fun σ' => ∃ i', μ i' < μ i ∧ Le σ' (I i')) Q) (I i)) : SWP P (.loop c) Q σ := by
  intro G a w hR
  have key : ∀ (n : Nat) (i : ι), μ i < n → ∀ (G' : Gh) (a' : Act) (w' : World), R G' (I i) a' w' → Kf G w G' w' → Fx σ (I i) G G' → Code.rounds P c (lift G w σ Q) n a' w' := by
    intro n
    induction n with
    | zero => intro i hi; omega
    | succ n ih =>
      intro i hi G' a' w' hR' hk hf
      refine wp_mono (round i G' a' w' hR') fun e a'' w'' hl => ?_
      obtain ⟨σ2, G2, h1, h2, h3, h4, h5⟩ := hl
      cases e with
      | normal =>
        obtain ⟨i', h6, h7⟩ := h1
        exact ih i' (by omega) G2 a'' w'' (h3.le h7) (hk.trans h4) ((hf.trans h5).trans h7.fx)
      | exit id => exact ⟨σ2, G2, h1, h2, h3, hk.trans h4, hf.trans h5⟩
      | ret => exact ⟨σ2, G2, h1, h2, h3, hk.trans h4, hf.trans h5⟩
      | _ => simp at h2
  exact wp_loop_rounds (μ i0 + 1) (key _ i0 (Nat.lt_succ_self _) G a w (hR.le h0) (Kf.refl G w) h0.fx)

theorem swp_skip (h : Q .normal σ) : SWP P .skip Q σ := swp_awp (c := .skip) h
theorem swp_exit {id : Nat} (h : Q (.exit id) σ) : SWP P (.exit id) Q σ := swp_awp (c := .exit id) h
theorem swp_ret (h : Q .ret σ) : SWP P .ret Q σ := swp_awp (c := .ret) h

/-- Behind a function's body, the function's table read. -/
def endR (P : Program) (n : Nat) (rs : List ResultVar) (Q : SV → (Nat → Option (Bool × List D)) → Prop) (e : Exit) (σ : St) : Prop :=
  match e with
  | .normal | .ret => match retPlaces P σ n rs with
    | some L => (L.map (·.1)).Nodup ∧ Q (retSV L) (extOut σ)
    | Option.none => False
  | _ => False

theorem AC_of_swp {f : FuncId} {fn : Func} {c : Code} {n : Nat} {rs : List ResultVar} {args : List SV} {E : Nat → Option (Bool × List D)} {Q : SV → (Nat → Option (Bool × List D)) → Prop} (hf : P.funcs[f]? = some fn) (hb : fn.body = some c)
    (hn : fn.ntmps = n) (hr : fn.results.toList = rs) (hlen : decide (args.length ≤ n) = true) (hnb : decide (n ≤ vbase) = true) (h : SWP P c (endR P n rs Q) (entry args E n)) : AC P f args E Q := by
  subst hn; subst hr
  refine AC_of hf hb (by simpa using hlen) (by simpa using hnb) fun G a w hR => wp_mono (h G a w hR) fun e a' w' hl => lift_mono (fun e σ hq => ?_) hl
  have key : ∀ e, (e = .normal ∨ e = .ret) → endR P fn.ntmps fn.results.toList Q e σ → endQ P fn Q e σ := by
    rintro e (rfl | rfl) hq
    · simp only [endR] at hq
      split at hq
      · next L hL => exact ⟨L, hL, hq.1, hq.2⟩
      · exact hq.elim
    · simp only [endR] at hq
      split at hq
      · next L hL => exact ⟨L, hL, hq.1, hq.2⟩
      · exact hq.elim
  cases e with
  | normal => exact key _ (.inl rfl) hq
  | ret => exact key _ (.inr rfl) hq
  | _ => exact hq.elim

end
end Go.AI

/-
  The abstract interpreter, part Zc: states, looked at.
-/
namespace Go.AI
open Go.RowKit

section
variable {σ : St} {d i k j m sz : Nat} {sv : SV} {p q : Pl} {ij : Nat × Nat} {x : D} {ds : List D} {args : List SV} {E : Nat → Option (Bool × List D)} {rows : List (List D)}

theorem put_n : (σ.put d sv).n = σ.n := rfl
theorem put_sl : (σ.put d sv).sl i = if i = d then sv else σ.sl i := rfl
theorem put_vr : (σ.put d sv).vr i = σ.vr i := rfl
theorem put_sa : (σ.put d sv).sa i = σ.sa i := rfl
theorem put_sb : (σ.put d sv).sb p ij = σ.sb p ij := rfl
theorem put_sc : (σ.put d sv).sc p ij = σ.sc p ij := rfl
theorem put_tick : (σ.put d sv).tick = σ.tick := rfl

theorem newVar_n : (σ.newVar k ds).n = σ.n := rfl
theorem newVar_sl : (σ.newVar k ds).sl i = σ.sl i := rfl
theorem newVar_vr : (σ.newVar k ds).vr i = if i = k then some (true, ds) else σ.vr i := rfl
theorem newVar_sa : (σ.newVar k ds).sa i = if i = k then σ.tick else σ.sa i := rfl
theorem newVar_sb : (σ.newVar k ds).sb p ij = if p = .v k then σ.tick else σ.sb p ij := rfl
theorem newVar_sc : (σ.newVar k ds).sc p ij = if p = .v k then σ.tick else σ.sc p ij := rfl
theorem newVar_tick : (σ.newVar k ds).tick = σ.tick + 1 := rfl

theorem setTopS_n : (σ.setTop p k j x).n = σ.n := by cases p <;> rfl
theorem setTopS_sl : (σ.setTop (.s m) k j x).sl i = if i = m then (σ.sl m).set k j x else σ.sl i := rfl
theorem setTopS_vr : (σ.setTop (.s m) k j x).vr i = σ.vr i := rfl
theorem setTopV_sl : (σ.setTop (.v m) k j x).sl i = σ.sl i := rfl
theorem setTopS_sa : (σ.setTop p k j x).sa i = σ.sa i := by cases p <;> rfl
theorem setTopS_sb : (σ.setTop p k j x).sb q ij = σ.sb q ij := by cases p <;> rfl
theorem setTopS_sc : (σ.setTop p k j x).sc q ij = σ.sc q ij := by cases p <;> rfl
theorem setTopS_tick : (σ.setTop p k j x).tick = σ.tick := by cases p <;> rfl

theorem bump_n : (σ.bump p k j).n = σ.n := rfl
theorem bump_sl : (σ.bump p k j).sl i = σ.sl i := rfl
theorem bump_vr : (σ.bump p k j).vr i = σ.vr i := rfl
theorem bump_sa : (σ.bump p k j).sa i = σ.sa i := rfl
theorem bump_sb : (σ.bump p k j).sb q ij = if q = p ∧ ij = (k, j) then σ.tick else σ.sb q ij := rfl
theorem bump_sc : (σ.bump p k j).sc q ij = if q = p ∧ ij = (k, j) then σ.tick else σ.sc q ij := rfl
theorem bump_tick : (σ.bump p k j).tick = σ.tick + 1 := rfl

theorem bumpC_n : (σ.bumpC p k j).n = σ.n := rfl
theorem bumpC_sl : (σ.bumpC p k j).sl i = σ.sl i := rfl
theorem bumpC_vr : (σ.bumpC p k j).vr i = σ.vr i := rfl
theorem bumpC_sa : (σ.bumpC p k j).sa i = σ.sa i := rfl
theorem bumpC_sb : (σ.bumpC p k j).sb q ij = σ.sb q ij := rfl
theorem bumpC_sc : (σ.bumpC p k j).sc q ij = if q = p ∧ ij = (k, j) then σ.tick else σ.sc q ij := rfl
theorem bumpC_tick : (σ.bumpC p k j).tick = σ.tick + 1 := rfl

theorem entry_n {n : Nat} : (entry args E n).n = n := rfl
theorem entry_sl {n : Nat} : (entry args E n).sl i = args[i]?.getD .none := rfl
theorem entry_vr {n : Nat} : (entry args E n).vr i = E i := rfl
theorem entry_sa {n : Nat} : (entry args E n).sa i = 0 := rfl
theorem entry_sb {n : Nat} : (entry args E n).sb p ij = 0 := rfl
theorem entry_sc {n : Nat} : (entry args E n).sc p ij = 0 := rfl
theorem entry_tick {n : Nat} : (entry args E n).tick = 1 := rfl

theorem setTopV_vr : (σ.setTop (.v m) k j x).vr i = if i = m then (match σ.vr m with
    | some (b, ds) => if k = 0 then some (b, ds.set j x) else some (b, ds)
    | Option.none => Option.none) else σ.vr i := by
  simp only [St.setTop]
  by_cases e : i = m
  · subst e
    simp only [if_true]
    cases σ.vr i with
    | none => rfl
    | some bd => obtain ⟨b, ds⟩ := bd; by_cases hk : k = 0 <;> simp [hk]
  · simp [e]

end
end Go.AI

/-
  The abstract interpreter, part Zd: the rules by which states are looked at, as one set.
-/
namespace Go.AI
theorem awpOps_nil {P : Program} {ops : Array Oper} {Q : St → Prop} {σ : St} : awpOps P ops Q [] σ = Q σ := rfl
theorem awpOps_cons {P : Program} {ops : Array Oper} {Q : St → Prop} {o : Oper} {r : List Oper} {σ : St} : awpOps P ops Q (o :: r) σ = match guardS ops σ o with
    | some b => Fork b (opK P o (awpOps P ops Q r)) (skipK o (awpOps P ops Q r)) σ
    | Option.none => False := rfl
@[go_sem] theorem opK_eq {P : Program} {o : Oper} {K : St → Prop} {σ : St} : opK P o K σ = opA P σ o K := rfl
@[go_sem] theorem skipK_eq {o : Oper} {K : St → Prop} {σ : St} : skipK o K σ = K (skipS σ o) := rfl
@[go_sem] theorem guardV_bool {w b : Bool} : guardV w (.bool b) = gdV w b := rfl
@[go_sem] theorem guardV_undef {b : Bool} : guardV b undef = false := rfl
attribute [go_sem] St.deepM appendM storeM buildSliceM solidifyML D.solidifyM D.okM
attribute [go_sem] maxS bndS partD sliceS D.isRo D.cap capL capOf makeFuncS St.freezeVar eqCell eqCellsS eqOpS eqAggS callS lenS allocS boxS St.okAddr St.rowAt storeS loadS fieldAddrS indexAddrS fieldS extractS indexS convertS bytesS numsRows buildS partsOf fillS SV.toCells SV.okv SV.cells D.okc solidifyL D.solidify St.setVar lendP lendC lendT St.rowsOf D.szOf pairLen makeSliceS buildSliceS solidifyP fillR appendS St.nilOwn D.srcRows D.okF St.freeze St.own setL nilCheckS SV.set List.all_cons List.all_nil Bool.and_true Bool.true_and Bool.and_false Bool.false_and List.length_cons List.length_nil List.set_cons_zero List.set_cons_succ List.take_succ_cons List.take_zero List.drop_succ_cons List.drop_zero Int.toNat_natCast Int.natCast_nonneg or_true true_or or_false false_or
attribute [go_sem] put_n put_sl put_vr put_sa put_sb put_sc put_tick newVar_n newVar_sl newVar_vr newVar_sa newVar_sb newVar_sc newVar_tick setTopS_n setTopS_sl setTopS_vr setTopV_sl setTopV_vr setTopS_sa setTopS_sb setTopS_sc setTopS_tick bump_n bump_sl bump_vr bump_sa bump_sb bump_sc bump_tick bumpC_n bumpC_sl bumpC_vr bumpC_sa bumpC_sb bumpC_sc bumpC_tick entry_n entry_sl entry_vr entry_sa entry_sb entry_sc entry_tick awpOps_nil awpOps_cons Fork_true Fork_false Then_some guardS opA callOf opS rdS putS St.rd St.lend D.lend assignS St.claims St.claim1 St.rows St.cell cellIn D.atU SV.rows SV.width St.stp litD binOpS binV intV unOpS unV pickS thenS skipS endR retPlaces retPlace retSV D.extD
attribute [go_sem] if_true if_false List.getElem?_toArray Option.map_some Option.bind_some Option.getD_some List.getElem?_cons_zero List.getElem?_cons_succ List.map_cons List.map_nil Nat.lt_irrefl Nat.zero_lt_succ Nat.lt_add_one Nat.not_lt_zero decide_true decide_false Bool.not_true Bool.not_false and_true true_and and_false false_and not_true_eq_false not_false_eq_true beq_self_eq_true gdV decide_eq_true_eq decide_eq_false_iff_not Bool.not_eq_true' Bool.not_eq_false' Bool.false_eq_true eq_self Option.some.injEq Prod.mk.injEq Pl.s.injEq Pl.v.injEq
end Go.AI

/-
  The abstract interpreter, part Ze: calls, as they mostly are.
-/
namespace Go.AI
open Go.RowKit

/-- The state behind a call that was lent nothing. -/
def St.res (σ : St) (d : Nat) (sv : SV) : St where
  n := σ.n
  sl i := if i = d then sv.map D.extD else σ.sl i
  vr := σ.vr
  sa := σ.sa
  sb q ij := if q = .s d then σ.tick else σ.sb q ij
  sc q ij := if q = .s d then σ.tick else σ.sc q ij
  tick := σ.tick + 1

section
variable {P : Program} {σ : St} {d i k j m sz : Nat} {sv : SV} {p q : Pl} {ij : Nat × Nat}

theorem res_n : (σ.res d sv).n = σ.n := rfl
theorem res_sl : (σ.res d sv).sl i = if i = d then sv.map D.extD else σ.sl i := rfl
theorem res_vr : (σ.res d sv).vr i = σ.vr i := rfl
theorem res_sa : (σ.res d sv).sa i = σ.sa i := rfl
theorem res_sb : (σ.res d sv).sb p ij = if p = .s d then σ.tick else σ.sb p ij := rfl
theorem res_sc : (σ.res d sv).sc p ij = if p = .s d then σ.tick else σ.sc p ij := rfl
theorem res_tick : (σ.res d sv).tick = σ.tick + 1 := rfl

theorem isD_some {q : Pl} : isD (some d) q = decide (q = .s d) := by
  cases q with
  | v k => simp [isD]
  | s i => simp only [isD, Pl.s.injEq]; rfl

theorem after_nil {E' : Nat → Option (Bool × List D)} : σ.after [] (some d) sv E' = σ.res d sv := by
  simp only [St.after, St.res, idx, Option.isSome_none, Bool.false_or, isD_some]
  congr 1
  · funext i
    by_cases e : i = d
    · simp [e]
    · simp [e, Ne.symm e]
  · funext q ij
    by_cases e : q = .s d <;> simp [e]
  · funext q ij
    by_cases e : q = .s d <;> simp [e]

/-- A call that is lent nothing, and reads whatever it is shown: its result is nobody else's. -/
theorem call_view {f : Operand} {xs : List Operand} {T : Pl → Prop} {K : St → Prop} {g : FuncId} {caps : List D} {args : List SV} {Q : SV → (Nat → Option (Bool × List D)) → Prop}
    (hrd : σ.rd f = .one (.clo g caps)) (hargs : (xs.map σ.rd ++ caps.map fun c => SV.one c.ro).map (argSV σ [] true) = args) (hd : d < σ.n) (hT : T (.s d)) (hg : enters P g = true)
    (hc : ∀ E, AC P g args E Q) (hK : ∀ sv E', Q sv E' → sv.Fresh ∧ K (σ.res d sv)) : callA P σ f xs (some d) T K := by
  refine .inl ⟨g, caps, [], true, Q, hrd, List.nodup_nil, fun q hq => by simp at hq, fun i hi => by cases hi; exact hd, fun q hq => by simp at hq, fun i hi => by cases hi; exact hT, ⟨hg, by rw [hargs]; exact hc _⟩, fun sv E' hQ => ?_⟩
  obtain ⟨h1, h2⟩ := hK sv E' hQ
  refine ⟨fun _ => ⟨h1, fun e b ds _ he => by simp at he⟩, ?_⟩
  rw [after_nil]; exact h2

/-- A call that is lent nothing and shown nothing of one's own: its result is whatever. -/
theorem call_free {f : Operand} {xs : List Operand} {T : Pl → Prop} {K : St → Prop} {g : FuncId} {caps : List D} {args : List SV} {Q : SV → (Nat → Option (Bool × List D)) → Prop}
    (hrd : σ.rd f = .one (.clo g caps)) (hargs : (xs.map σ.rd ++ caps.map fun c => SV.one c.ro).map (argSV σ [] false) = args) (hd : d < σ.n) (hT : T (.s d)) (hg : enters P g = true)
    (hc : ∀ E, AC P g args E Q) (hK : ∀ sv E', Q sv E' → K (σ.res d sv)) : callA P σ f xs (some d) T K := by
  refine .inl ⟨g, caps, [], false, Q, hrd, List.nodup_nil, fun q hq => by simp at hq, fun i hi => by cases hi; exact hd, fun q hq => by simp at hq, fun i hi => by cases hi; exact hT, ⟨hg, by rw [hargs]; exact hc _⟩, fun sv E' hQ => ?_⟩
  refine ⟨fun h => (by cases h), ?_⟩
  rw [after_nil]; exact hK sv E' hQ

end
attribute [go_sem] res_n res_sl res_vr res_sa res_sb res_sc res_tick SV.map argSV St.argD St.viewD idx SV.Fresh fresh_lit fresh_nil fresh_dead fresh_sl List.nil_append List.cons_append List.append_nil D.ro
end Go.AI

/-
  The abstract interpreter, part Zf: states written down, for the heads of loops.
-/
namespace Go.AI
open Go.RowKit

def vfun : List (Nat × Bool × List D) → Nat → Option (Bool × List D)
  | [], _ => Option.none
  | (k, b, ds) :: r, i => if i = k then some (b, ds) else vfun r i

def SlLe (σ : St) : Nat → List SV → Prop
  | _, [] => True
  | i, sv' :: r => (σ.sl i).le σ sv' ∧ SlLe σ (i + 1) r

def vrLe1 (σ : St) (x : Option (Bool × List D)) (b : Bool) (ds' : List D) : Prop := match x with
  | some (b0, ds) => b0 = b ∧ All2 (D.le σ) ds ds'
  | Option.none => False

def VrLe (σ : St) : List (Nat × Bool × List D) → Prop
  | [] => True
  | (k, b, ds') :: r => vrLe1 σ (σ.vr k) b ds' ∧ VrLe σ r

/-- A state that is written down. -/
def fr (n : Nat) (L : List SV) (V : List (Nat × Bool × List D)) : St := entry L (vfun V) n

section
variable {σ : St} {n i : Nat} {L : List SV} {V : List (Nat × Bool × List D)} {p : Pl} {ij : Nat × Nat}

theorem fr_n : (fr n L V).n = n := rfl
theorem fr_sl : (fr n L V).sl i = L[i]?.getD .none := rfl
theorem fr_vr : (fr n L V).vr i = vfun V i := rfl
theorem fr_sa : (fr n L V).sa i = 0 := rfl
theorem fr_sb : (fr n L V).sb p ij = 0 := rfl
theorem fr_sc : (fr n L V).sc p ij = 0 := rfl
theorem fr_tick : (fr n L V).tick = 1 := rfl

theorem SlLe_get {σ : St} : ∀ {L : List SV} {m : Nat}, SlLe σ m L → ∀ {j : Nat} {sv : SV}, L[j]? = some sv → (σ.sl (m + j)).le σ sv
  | [], m, h, j, sv, hj => by simp at hj
  | s :: L, m, h, 0, sv, hj => by simp at hj; subst hj; exact h.1
  | s :: L, m, h, j + 1, sv, hj => by
    simp at hj
    have := SlLe_get h.2 hj
    rwa [show m + 1 + j = m + (j + 1) by omega] at this

theorem VrLe_get {σ : St} : ∀ {V : List (Nat × Bool × List D)}, VrLe σ V → ∀ {k : Nat} {b : Bool} {ds' : List D}, vfun V k = some (b, ds') → ∃ ds, σ.vr k = some (b, ds) ∧ All2 (D.le σ) ds ds'
  | [], h, k, b, ds', hv => by simp [vfun] at hv
  | (k0, b0, ds0) :: V, h, k, b, ds', hv => by
    simp only [vfun] at hv
    split at hv
    · next e =>
      simp only [Option.some.injEq, Prod.mk.injEq] at hv
      obtain ⟨rfl, rfl⟩ := hv
      subst e
      have h1 := h.1
      unfold vrLe1 at h1
      split at h1
      · next b1 ds hv' => obtain ⟨rfl, h2⟩ := h1; exact ⟨ds, hv', h2⟩
      · exact h1.elim
    · exact VrLe_get h.2 hv

theorem sv_le_none {σ : St} (sv : SV) : sv.le σ .none := by cases sv <;> trivial

theorem le_fr (hn : σ.n = n) (hl : L.length ≤ n) (hs : SlLe σ 0 L) (hv : VrLe σ V) : Le σ (fr n L V) := by
  refine ⟨hn.symm, fun i hi => ?_, fun i hi => ?_, fun k b ds' hk => VrLe_get hv hk, fun _ => rfl, fun _ _ => rfl, fun _ _ => rfl, rfl⟩
  · rw [fr_sl]
    cases h : L[i]? with
    | none => exact sv_le_none _
    | some sv => have := SlLe_get hs h; rwa [Nat.zero_add] at this
  · rw [fr_sl, List.getElem?_eq_none (by omega)]; rfl

theorem le_none' {sv : SV} : sv.le σ .none = True := eq_true (sv_le_none sv)
theorem le_one {d d' : D} : SV.le σ (.one d) (.one d') = d.le σ d' := rfl
theorem le_agg {ds ds' : List D} : SV.le σ (.agg ds) (.agg ds') = All2 (D.le σ) ds ds' := rfl
theorem le_lit {d : D} {v : Value} : D.le σ d (.lit v) = (d = .lit v) := rfl
theorem le_nil {d : D} : D.le σ d .nil = (d = .nil) := rfl
theorem le_sl {d : D} {u : Bool} {sz : Nat} {rows : List (List D)} : D.le σ d (.sl u sz rows) = (d = .sl u sz rows) := rfl
theorem le_clo {d : D} {f : FuncId} {caps : List D} : D.le σ d (.clo f caps) = (d = .clo f caps) := rfl
theorem le_raddr {d : D} {row : List D} : D.le σ d (.raddr row) = (d = .raddr row) := rfl
theorem le_dead {d : D} : D.le σ d .dead = True := rfl
theorem le_bor {q : Pl} {π : Path} {m : Nat} {rg : Option (Nat × Nat)} : D.le σ (.bor q π m rg) (.bor q π 0 rg) = (σ.stp q π = m) := by
  simp only [D.le, true_and]
  apply propext
  constructor
  · rintro ⟨m', e, h⟩; cases e; exact h
  · intro h; exact ⟨m, rfl, h⟩
theorem le_addr {q : Pl} {π : Path} {m a b : Nat} : D.le σ (.addr q π a b m) (.addr q π a b 0) = (σ.stp q π = m) := by
  simp only [D.le, true_and]
  apply propext
  constructor
  · rintro ⟨m', e, h⟩; cases e; exact h
  · intro h; exact ⟨m, rfl, h⟩

end
attribute [go_sem] strV boolV Int.ofNat_lt Int.ofNat_le fr_n fr_sl fr_vr fr_sa fr_sb fr_sc fr_tick vfun SlLe vrLe1 VrLe All2 le_none' le_one le_agg le_lit le_nil le_sl le_clo le_raddr le_dead le_bor le_addr List.length_cons List.length_nil inBlockS indexS intV D.lit.injEq Value.int.injEq Value.bool.injEq SV.one.injEq
end Go.AI

/-
  The abstract interpreter, part Zg: a call that is lent one variable, which it may change.
-/
namespace Go.AI
open Go.RowKit

/-- The state behind a call that was lent one variable. -/
def St.resV (σ : St) (d : Nat) (sv : SV) (k : Nat) (b : Bool) (ds : List D) : St where
  n := σ.n
  sl i := if i = d then sv.map D.extD else σ.sl i
  vr i := if i = k then some (b, ds.map D.extD) else σ.vr i
  sa := σ.sa
  sb q ij := if q = .s d ∨ q = .v k then σ.tick else σ.sb q ij
  sc q ij := if q = .s d ∨ q = .v k then σ.tick else σ.sc q ij
  tick := σ.tick + 1

section
variable {P : Program} {σ : St} {d i k j m sz : Nat} {b : Bool} {ds : List D} {sv : SV} {p q : Pl} {ij : Nat × Nat}

theorem resV_n : (σ.resV d sv k b ds).n = σ.n := rfl
theorem resV_sl : (σ.resV d sv k b ds).sl i = if i = d then sv.map D.extD else σ.sl i := rfl
theorem resV_vr : (σ.resV d sv k b ds).vr i = if i = k then some (b, ds.map D.extD) else σ.vr i := rfl
theorem resV_sa : (σ.resV d sv k b ds).sa i = σ.sa i := rfl
theorem resV_sb : (σ.resV d sv k b ds).sb p ij = if p = .s d ∨ p = .v k then σ.tick else σ.sb p ij := rfl
theorem resV_sc : (σ.resV d sv k b ds).sc p ij = if p = .s d ∨ p = .v k then σ.tick else σ.sc p ij := rfl
theorem resV_tick : (σ.resV d sv k b ds).tick = σ.tick + 1 := rfl

theorem after_one {E' : Nat → Option (Bool × List D)} {ds0 : List D} (hv : σ.vr k = some (b, ds0)) (hE : E' vbase = some (b, ds)) : σ.after [.v k] (some d) sv E' = σ.resV d sv k b ds := by
  simp only [St.after, St.resV, idx]
  congr 1
  · funext i
    by_cases e : i = d
    · simp [e]
    · simp [e, Ne.symm e]
  · funext i
    by_cases e : i = k
    · subst e; simp [hv, hE]
    · have : ¬ (Pl.v k = Pl.v i) := fun h => e (by simpa using h.symm)
      simp [e, this]
  · funext q ij
    by_cases e : q = .s d
    · subst e; simp [isD_some]
    · by_cases e2 : q = .v k
      · subst e2; simp [isD_some]
      · simp [isD_some, e, e2, Ne.symm e2]
  · funext q ij
    by_cases e : q = .s d
    · subst e; simp [isD_some]
    · by_cases e2 : q = .v k
      · subst e2; simp [isD_some]
      · simp [isD_some, e, e2, Ne.symm e2]

/-- A call that is lent one variable, and reads whatever else it is shown. -/
theorem call_lend (k : Nat) {f : Operand} {xs : List Operand} {T : Pl → Prop} {K : St → Prop} {g : FuncId} {caps : List D} {args : List SV} {Q : SV → (Nat → Option (Bool × List D)) → Prop} {ds0 dse : List D}
    (hrd : σ.rd f = .one (.clo g caps)) (hargs : (xs.map σ.rd ++ caps.map fun c => SV.one c.ro).map (argSV σ [.v k] true) = args) (hv : σ.vr k = some (b, ds0)) (he : ds0.map D.extD = dse) (hd : d < σ.n) (hT : T (.s d)) (hT2 : T (.v k)) (hg : enters P g = true)
    (hc : ∀ E, E vbase = some (b, dse) → AC P g args E Q) (hK : ∀ sv E', Q sv E' → sv.Fresh ∧ ∃ ds, E' vbase = some (b, ds) ∧ (∀ x ∈ ds, x.Fresh) ∧ K (σ.resV d sv k b ds)) : callA P σ f xs (some d) T K := by
  subst he
  refine .inl ⟨g, caps, [.v k], true, Q, hrd, by simp, fun q hq => ?_, fun i hi => by cases hi; exact hd, fun q hq => ?_, fun i hi => by cases hi; exact hT, ⟨hg, by rw [hargs]; exact hc _ (by simp [St.ext, hv])⟩, fun sv E' hQ => ?_⟩
  · simp only [List.mem_singleton] at hq; subst hq; rfl
  · simp only [List.mem_singleton] at hq; subst hq; exact hT2
  · obtain ⟨h1, ds, h2, h3, h4⟩ := hK sv E' hQ
    refine ⟨fun _ => ⟨h1, fun e b' ds' he1 he2 hE => ?_⟩, ?_⟩
    · simp at he2
      have : e = vbase := by omega
      subst this
      rw [h2] at hE
      simp only [Option.some.injEq, Prod.mk.injEq] at hE
      obtain ⟨rfl, rfl⟩ := hE
      exact h3
    · rw [after_one hv h2]; exact h4

end
attribute [go_sem] resV_n resV_sl resV_vr resV_sa resV_sb resV_sc resV_tick
end Go.AI

/-
  The abstract interpreter, part Zh: regions whose order is drawn.
-/
namespace Go.AI
open Go.RowKit

/-- The state without some places. -/
def St.forget (σ : St) (L : List Pl) : St where
  n := σ.n
  sl i := if Pl.s i ∈ L then .none else σ.sl i
  vr k := if Pl.v k ∈ L then Option.none else σ.vr k
  sa := σ.sa
  sb := σ.sb
  sc := σ.sc
  tick := σ.tick

def Gh.only (G : Gh) (L : List Pl) : Gh where
  val := G.val
  own b := match G.own b with
    | some (q, π) => if q ∈ L then Option.none else some (q, π)
    | Option.none => Option.none
  imm := G.imm
  blk := G.blk

section
variable {P : Program} {G : Gh} {σ τ : St} {a : Act} {w : World} {o : Oper} {L : List Pl} {ops : Array Oper}

theorem only_own {b : Nat} {q : Pl × Path} : (G.only L).own b = some q ↔ G.own b = some q ∧ q.1 ∉ L := by
  unfold Gh.only
  simp only
  cases h : G.own b with
  | none => simp
  | some x =>
    obtain ⟨p, π⟩ := x
    by_cases hp : p ∈ L
    · simp only [hp, if_true, Option.some.injEq]
      constructor
      · intro h; cases h
      · rintro ⟨rfl, h2⟩; exact absurd hp h2
    · simp only [hp, if_false, Option.some.injEq]
      constructor
      · rintro rfl; exact ⟨rfl, hp⟩
      · rintro ⟨rfl, _⟩; rfl

theorem forget_cell {p : Pl} {π : Path} : (σ.forget L).cell p π = if p ∈ L then Option.none else σ.cell p π := by
  split
  · next hp =>
    cases π with
    | nil => rfl
    | cons ij π =>
      have : (σ.forget L).rows p = [] := by
        cases p with
        | s i => simp [St.rows, St.forget, hp, SV.rows]
        | v k => simp [St.rows, St.forget, hp]
      simp [St.cell, this, cellIn]
  · next hp =>
    refine St.cell_congr ?_ π
    cases p with
    | s i => simp [St.rows, St.forget, hp]
    | v k => simp [St.rows, St.forget, hp]

theorem forget_stp {p : Pl} {π : Path} : (σ.forget L).stp p π = σ.stp p π := by
  rcases π with _ | ⟨ij, _ | ⟨kl, π⟩⟩ <;> cases p <;> rfl

theorem R.forget (h : R G σ a w) (L : List Pl) : R (G.only L) (σ.forget L) a w := by
  have hc : ∀ {p π d}, (σ.forget L).cell p π = some d → p ∉ L ∧ σ.cell p π = some d := fun {p π d} hd => by
    rw [forget_cell] at hd
    split at hd
    · cases hd
    · next hp => exact ⟨hp, hd⟩
  refine ⟨h.size, h.defers, fun i hi => ?_, fun k ds hk => ?_, fun p π d hd => ?_, fun p ij kl ρ d hd => h.deep p ij kl ρ d (hc hd).2, fun b hb => ?_, h.immLt, fun b q hb => h.ownLt b q (only_own.1 hb).1, h.stA, h.stB, h.stC,
    fun p π q ρ n rg hd => h.stBor p π q ρ n rg (hc hd).2, fun p π q ρ i j n hd => h.stAddr p π q ρ i j n (hc hd).2⟩
  · simp only [St.forget]
    split
    · trivial
    · exact h.slots i hi
  · simp only [St.forget] at hk
    split at hk
    · cases hk
    · next hp =>
      obtain ⟨h1, h2, h3⟩ := h.vars k ds hk
      exact ⟨only_own.2 ⟨h1, hp⟩, h2, h3⟩
  · obtain ⟨hp, hd⟩ := hc hd
    have hl := h.loc p π d hd
    by_cases hown : d.isOwn = true
    · cases d with
      | sl u sz rows =>
        cases u with
        | false => simp [D.isOwn] at hown
        | true => exact LocOwn.carry (G' := G.only L) hl rfl (fun _ => rfl) (fun b hb => only_own.2 ⟨hb, hp⟩) (fun b hb => SameAt.refl w b)
      | _ => simp [D.isOwn] at hown
    · refine Loc.ofV ((hl.toV (by simpa using hown)).carry (G' := G.only L) (fun _ hb => hb) (fun b _ => SameAt.refl w b) (fun q ρ n rg _ h1 sz rows h2 => ⟨by rw [forget_stp] at h1; exact h1, ⟨rows, (hc h2).2⟩, rfl⟩) (fun q ρ i j n _ h1 ad h2 => ⟨by rw [forget_stp] at h1; exact h1, ?_⟩))
      refine h2.congr (fun _ k ds hq hk => ?_) (fun _ sz rows h3 => ⟨⟨rows, (hc h3).2⟩, rfl⟩)
      simp only [St.forget] at hk
      split at hk
      · cases hk
      · exact ⟨⟨ds, hk⟩, rfl⟩
  · cases ho : (G.only L).own b with
    | none => rfl
    | some q => have := (only_own.1 ho).1; rw [h.immOwn b hb] at this; cases this

theorem SameAt.trans' {w w' w'' : World} {b : Nat} (h : SameAt w w' b) (k : SameAt w' w'' b) : SameAt w w'' b := fun o => ⟨(k o).1.trans (h o).1, (k o).2.trans (h o).2⟩
theorem SameAt.symm' {w w' : World} {b : Nat} (h : SameAt w w' b) : SameAt w' w b := fun o => ⟨(h o).1.symm, (h o).2.symm⟩

/-- From here on, whatever order is drawn: the full state; the state that tells of nothing that the region touches. -/
def DW (P : Program) (ops : Array Oper) (L : List Pl) (Q : St → Prop) (fuel : Nat) (listed : Array Bool) (σ τ : St) : Prop :=
  ∀ (G0 : Gh) (w0 : World) (σ0 : St) (B : Nat → Prop) (wb : World) (G Gt : Gh) (a : Act) (w : World),
    R G σ a w → R Gt τ a w → Kf G0 w0 G w → Fx σ0 σ G0 G → (∀ i, Pl.s i ∈ L → τ.sl i = .none) →
    (∀ b, Gt.imm b → B b) → (∀ b q, Gt.own b = some q → B b) → (∀ b, B b → SameAt wb w b) → (∀ b, B b → b < w.heap.size ∧ ∀ q, G.own b = some q → q.1 ∉ L) →
    wpAnyH P .any ops (lift G0 w0 σ0 (fun e σ' => e = .normal ∧ Q σ')) (fun w' => ∀ b, B b → SameAt wb w' b) fuel listed a w

theorem swp_draw (L : List Pl) {id : Nat} {Q : Exit → St → Prop} (hm : P.follows .mixedOrders = true)
    (h : DW P ops L (Q .normal) ops.size (Array.replicate ops.size false) σ (σ.forget L)) : SWP P (.region id ops true) Q σ := by
  intro G a w hR
  have hR' : R G σ a { w with drawn := w.drawn + 1 } := hR.world (Nat.le_refl _) (fun b q _ => fun o => ⟨rfl, rfl⟩) (fun b _ => fun o => ⟨rfl, rfl⟩)
  have hk : Kf G w G { w with drawn := w.drawn + 1 } := ⟨rfl, rfl, rfl, Nat.le_refl _, fun b _ h0 => ⟨rfl, h0⟩, fun _ hb => hb, fun _ hb => .inl hb⟩
  refine wp_mono (wp_region_held (S := fun w' => ∀ b, (G.imm b ∨ ∃ q, (G.only L).own b = some q) → SameAt { w with drawn := w.drawn + 1 } w' b) hm (h G w σ (fun b => G.imm b ∨ ∃ q, (G.only L).own b = some q) { w with drawn := w.drawn + 1 } G (G.only L) a _ hR' (hR'.forget L) hk (Fx.refl σ G)
    (fun i hi => by simp [St.forget, hi]) (fun b hb => .inl hb) (fun b q hb => .inr ⟨q, hb⟩) (fun b _ => SameAt.refl _ b) (fun b hb => ?_))) fun e a' w' hl => ?_
  · rcases hb with hb | ⟨q, hb⟩
    · exact ⟨hR.immLt b hb, fun q hq => by rw [hR.immOwn b hb] at hq; cases hq⟩
    · obtain ⟨h1, h2⟩ := only_own.1 hb
      exact ⟨hR.ownLt b q h1, fun q' hq' => by rw [h1] at hq'; cases hq'; exact h2⟩
  · obtain ⟨σ', G', ⟨rfl, h1⟩, h2⟩ := hl
    exact ⟨σ', G', h1, h2⟩

theorem panic_lift {G0 : Gh} {w0 : World} {σ0 : St} {Q : St → Prop} {dst : Option Nat} {v : Value} : ∀ c (a : Act) (w : World), lift G0 w0 σ0 (fun e σ' => e = .normal ∧ Q σ') (.panic c) (a.put dst v) w → lift G0 w0 σ0 (fun e σ' => e = .normal ∧ Q σ') (.panic c) a w := by
  rintro c a w ⟨σ', G', ⟨h, _⟩, _⟩
  cases h

/-- Number i is a read of what nobody touches: it may be taken first. -/
theorem dw_take (i : Nat) {d : Nat} {sv sv' : SV} {b : Bool} {Q : St → Prop} {fuel : Nat} {listed : Array Bool} (hi : ops[i]? = some o) (hs : Region.noSelect ops = true) (hf : Region.free .any ops listed i = true)
    (hr : (Region.ready .any ops listed).contains i = true) (hd : o.dst = some d) (hg : guardS ops σ o = some b) (hn : d < σ.n) (hn' : d < τ.n) (hL : Pl.s d ∉ L)
    (h1 : b = true → rdS P σ o = some sv) (h2 : b = true → rdS P τ o = some sv')
    (h : b = true → DW P ops L Q fuel (listed.setIfInBounds i true) (σ.put d sv) (τ.put d sv'))
    (h0 : b = false → DW P ops L Q fuel (listed.setIfInBounds i true) (σ.put d (.one (.lit undef))) (τ.put d (.one (.lit undef)))) :
    DW P ops L Q (fuel + 1) listed σ τ := by
  intro G0 w0 σ0 B wb G Gt a w hR hT hk hx hnone hBi hBo hB hown
  have go : ∀ (v : Value) (x x' : SV), Tells G w σ x v → Tells Gt w τ x' v → DW P ops L Q fuel (listed.setIfInBounds i true) (σ.put d x) (τ.put d x') →
      wpAnyH P .any ops (lift G0 w0 σ0 (fun e σ' => e = .normal ∧ Q σ')) (fun w' => ∀ b, B b → SameAt wb w' b) fuel (listed.setIfInBounds i true) (a.put o.dst v) w := by
    intro v x x' t1 t2 hD
    obtain ⟨G', g1, g2, g3, g4, g5⟩ := hR.putK hn t1
    obtain ⟨Gt', k1, k2, k3, k4, k5⟩ := hT.putT hn' t2
    rw [hd]
    refine hD G0 w0 σ0 B wb G' Gt' _ w g1 k1 (hk.trans g2.toKf) (hx.trans g5) (fun j hj => ?_) (fun b hb => hBi b (by rw [← k2]; exact hb)) (fun b q hb => ?_) hB (fun b hb => ⟨(hown b hb).1, fun q hq => ?_⟩)
    · simp only [St.put]
      rw [if_neg (fun e => hL (by rw [← e]; exact hj))]
      exact hnone j hj
    · obtain ⟨q, π⟩ := q
      exact hBo b (q, π) ((k5 b q π).1 hb).1
    · obtain ⟨q, π⟩ := q
      by_cases e : q = .s d
      · rw [e]; exact hL
      · exact (hown b hb).2 (q, π) (g4 b q π e hq)
  have hw := guard_spec hR hg
  cases b with
  | true =>
    obtain ⟨v, e1, t1⟩ := rdS_gives hR (h1 rfl)
    obtain ⟨v', e2, t2⟩ := rdS_gives hT (h2 rfl)
    have : v = v' := by
      have h3 := e1 w (SameR.refl G w)
      have h4 := e2 w (SameR.refl Gt w)
      rw [h3] at h4
      simpa using h4
    subst this
    refine wpAnyH_take hi hs hf hr (fun c a w => panic_lift c a w) (v := v) (.inl ⟨hw, fun w'' hS => e2 w'' fun b hb => ?_⟩) hB (go v sv sv' t1 t2 (h rfl))
    have hBb : B b := by
      rcases hb with hb | ⟨q, hb⟩
      · exact hBi b hb
      · exact hBo b q hb
    exact (hB b hBb).symm'.trans' (hS b hBb)
  | false =>
    exact wpAnyH_take hi hs hf hr (fun c a w => panic_lift c a w) (v := undef) (.inr ⟨hw, rfl⟩) hB (go undef _ _ tells_lit tells_lit (h0 rfl))

/-- A guard that is not known yet: two cases. -/
theorem dw_split (i : Nat) {b : Bool} {Q : St → Prop} {fuel : Nat} {listed : Array Bool} (hi : ops[i]? = some o) (hg : guardS ops σ o = some b) (h1 : b = true → DW P ops L Q fuel listed σ τ) (h0 : b = false → DW P ops L Q fuel listed σ τ) : DW P ops L Q fuel listed σ τ := by
  cases b
  · exact h0 rfl
  · exact h1 rfl

/-- Number i is not wanted. -/
theorem dw_skip (i : Nat) {d : Nat} {Q : St → Prop} {fuel : Nat} {listed : Array Bool} (hi : ops[i]? = some o) (hs : Region.noSelect ops = true) (hf : Region.free .any ops listed i = true)
    (hr : (Region.ready .any ops listed).contains i = true) (hd : o.dst = some d) (hg : guardS ops σ o = some false) (hn : d < σ.n) (hn' : d < τ.n) (hL : Pl.s d ∉ L)
    (h : DW P ops L Q fuel (listed.setIfInBounds i true) (σ.put d (.one (.lit undef))) (τ.put d (.one (.lit undef)))) : DW P ops L Q (fuel + 1) listed σ τ :=
  dw_take (sv := .none) (sv' := .none) i hi hs hf hr hd hg hn hn' hL (fun h => by cases h) (fun h => by cases h) (fun h => by cases h) (fun _ => h)

/-- What an operation that came up has left is a literal: the other state may know it, too. -/
theorem dw_know (L' : List Pl) (d : Nat) {v : Value} {Q : St → Prop} {fuel : Nat} {listed : Array Bool} (hs : σ.rd (.tmp d) = .one (.lit v)) (hn : d < σ.n) (hn' : d < τ.n) (hsub : ∀ p ∈ L', p ∈ L) (hd : Pl.s d ∉ L')
    (h : DW P ops L' Q fuel listed σ (τ.put d (.one (.lit v)))) : DW P ops L Q fuel listed σ τ := by
  intro G0 w0 σ0 B wb G Gt a w hR hT hk hx hnone hBi hBo hB hown
  have hv : a.tmps.getD d undef = v := litOf hR (x := .tmp d) hs
  have ha : a.put (some d) v = a := by
    have hsz : d < a.tmps.size := by rw [hR.size]; exact hn
    have hg : a.tmps[d]? = some v := by
      rw [Array.getD_eq_getD_getElem?, Array.getElem?_eq_getElem hsz] at hv
      rw [Array.getElem?_eq_getElem hsz]; simpa using hv
    have : a.tmps.setIfInBounds d v = a.tmps := by
      apply Array.ext_getElem?
      intro k
      rw [Array.getElem?_setIfInBounds]
      split
      · next e => subst e; simp [hg]
      · rfl
    simp only [Act.put, this]
  obtain ⟨Gt', k1, k2, k3, k4, k5⟩ := hT.putT hn' (sv := .one (.lit v)) (v := v) tells_lit
  rw [ha] at k1
  refine h G0 w0 σ0 B wb G Gt' a w hR k1 hk hx (fun j hj => ?_) (fun b hb => hBi b (by rw [← k2]; exact hb)) (fun b q hb => ?_) hB (fun b hb => ⟨(hown b hb).1, fun q hq hq' => (hown b hb).2 q hq (hsub _ hq')⟩)
  · simp only [St.put]
    rw [if_neg (fun e => hd (by rw [← e]; exact hj))]
    exact hnone j (hsub _ hj)
  · obtain ⟨q, π⟩ := q
    exact hBo b (q, π) ((k5 b q π).1 hb).1

def D.isLit : D → Bool
  | .lit _ => true
  | _ => false
def SV.lits (sv : SV) : Bool := sv.rows.all fun r => r.all D.isLit
theorem tells_lits {G Gt : Gh} {σ τ : St} {w : World} {sv : SV} {v : Value} (h : Tells G w σ sv v) (hl : sv.lits = true) : Tells Gt w τ sv v := by
  obtain ⟨f, h1, h2⟩ := h
  refine ⟨f, h1, fun k j x hx => ?_⟩
  have hx' := (h2 k j x hx).1
  obtain ⟨row, hr, hc⟩ : ∃ row, sv.rows[k]? = some row ∧ row[j]? = some x := by simpa [cellIn, Option.bind_eq_some_iff] using hx
  have := List.all_eq_true.1 (List.all_eq_true.1 hl row (List.mem_of_getElem? hr)) x (List.mem_of_getElem? hc)
  cases x with
  | lit u => exact ⟨RO.lit.2 (RO.lit.1 hx'), trivial⟩
  | _ => simp [D.isLit] at this

/-- What an operation that came up has left are literals. -/
theorem dw_knowS (L' : List Pl) (d : Nat) {sv : SV} {Q : St → Prop} {fuel : Nat} {listed : Array Bool} (hs : σ.rd (.tmp d) = sv) (hl : sv.lits = true) (hn : d < σ.n) (hn' : d < τ.n) (hsub : ∀ p ∈ L', p ∈ L) (hd : Pl.s d ∉ L')
    (h : DW P ops L' Q fuel listed σ (τ.put d sv)) : DW P ops L Q fuel listed σ τ := by
  intro G0 w0 σ0 B wb G Gt a w hR hT hk hx hnone hBi hBo hB hown
  have hsv := hR.rd (.tmp d)
  rw [hs] at hsv
  have hsv' : Tells Gt w τ sv (a.tmps.getD d undef) := tells_lits (v := a.tmps.getD d undef) hsv hl
  have ha : a.put (some d) (a.tmps.getD d undef) = a := by
    have hsz : d < a.tmps.size := by rw [hR.size]; exact hn
    have : a.tmps.setIfInBounds d (a.tmps.getD d undef) = a.tmps := by
      apply Array.ext_getElem?
      intro k
      rw [Array.getElem?_setIfInBounds]
      split
      · next e => subst e; simp [Array.getElem?_eq_getElem hsz, hsz]
      · rfl
    simp only [Act.put, this]
  obtain ⟨Gt', k1, k2, k3, k4, k5⟩ := hT.putT hn' hsv'
  rw [ha] at k1
  refine h G0 w0 σ0 B wb G Gt' a w hR k1 hk hx (fun j hj => ?_) (fun b hb => hBi b (by rw [← k2]; exact hb)) (fun b q hb => ?_) hB (fun b hb => ⟨(hown b hb).1, fun q hq hq' => (hown b hb).2 q hq (hsub _ hq')⟩)
  · simp only [St.put]
    rw [if_neg (fun e => hd (by rw [← e]; exact hj))]
    exact hnone j (hsub _ hj)
  · obtain ⟨q, π⟩ := q
    exact hBo b (q, π) ((k5 b q π).1 hb).1

def ThenL (L : List Pl) (x : Option (St × List Pl)) (K : St → Prop) : Prop := match x with
  | some (σ', t) => (∀ p ∈ t, p ∈ L) ∧ K σ'
  | Option.none => False
@[congr] theorem ThenL_congr {x x' : Option (St × List Pl)} {K : St → Prop} (h : x = x') : ThenL L x K = ThenL L x' K := by rw [h]
theorem ThenL_some {t : List Pl} {K : St → Prop} : ThenL L (some (σ, t)) K = ((∀ p ∈ t, p ∈ L) ∧ K σ) := rfl

/-- An operation that comes up when it is drawn. -/
def neA (P : Program) (L : List Pl) (σ : St) (o : Oper) (K : St → Prop) : Prop :=
  match callOf o with
  | some (f, xs) => callA P σ f xs o.dst (· ∈ L) K
  | Option.none => ThenL L (opS P σ o) K
def neK (P : Program) (L : List Pl) (o : Oper) (K : St → Prop) (σ : St) : Prop := neA P L σ o K

theorem dw_one {Q : St → Prop} {fuel : Nat} {listed : Array Bool} {b : Bool} (hd : ∀ d, o.dst = some d → Pl.s d ∈ L) (hg : guardS ops σ o = some b)
    (h : Fork b (neK P L o fun σ' => DW P ops L Q fuel listed σ' τ) (skipK o fun σ' => DW P ops L Q fuel listed σ' τ) σ)
    {G0 : Gh} {w0 : World} {σ0 : St} {B : Nat → Prop} {wb : World} {G Gt : Gh} {a : Act} {w : World} (hR : R G σ a w) (hT : R Gt τ a w) (hk : Kf G0 w0 G w) (hx : Fx σ0 σ G0 G) (hnone : ∀ i, Pl.s i ∈ L → τ.sl i = .none)
    (hBi : ∀ b, Gt.imm b → B b) (hBo : ∀ b q, Gt.own b = some q → B b) (hB : ∀ b, B b → SameAt wb w b) (hown : ∀ b, B b → b < w.heap.size ∧ ∀ q, G.own b = some q → q.1 ∉ L) {i : Nat} (hi : ops[i]? = some o) :
    wpOp P ops (lift G0 w0 σ0 (fun e σ' => e = .normal ∧ Q σ')) i (fun a' w' => (∀ b, B b → SameAt wb w' b) ∧ wpAnyH P .any ops (lift G0 w0 σ0 (fun e σ' => e = .normal ∧ Q σ')) (fun w' => ∀ b, B b → SameAt wb w' b) fuel listed a' w') a w := by
  have hw := guard_spec hR hg
  have go : ∀ (σ' : St) (G' : Gh) (v : Value) (w' : World) (t : List Pl), DW P ops L Q fuel listed σ' τ → (∀ p ∈ t, p ∈ L) → R G' σ' (a.put o.dst v) w' → Kp t G w G' w' → Fx σ σ' G G' →
      (∀ b, B b → SameAt wb w' b) ∧ wpAnyH P .any ops (lift G0 w0 σ0 (fun e σ' => e = .normal ∧ Q σ')) (fun w' => ∀ b, B b → SameAt wb w' b) fuel listed (a.put o.dst v) w' := by
    intro σ' G' v w' t hD ht hR' hkp hfx
    have hheap : ∀ b, B b → w'.heap[b]? = w.heap[b]? ∧ ∀ q, G'.own b = some q → q.1 ∉ L := fun b hb => by
      obtain ⟨h1, h2⟩ := hown b hb
      cases ho : G.own b with
      | none =>
        obtain ⟨h3, h4⟩ := hkp.free b h1 ho
        exact ⟨h3, fun q hq => by rw [h4] at hq; cases hq⟩
      | some q =>
        obtain ⟨q, π⟩ := q
        have hq := h2 _ ho
        obtain ⟨h3, h4⟩ := hkp.keep b q π (fun hp => hq (ht q hp)) ho
        exact ⟨h3, fun q' hq' => by rw [h4] at hq'; cases hq'; exact hq⟩
    have hB' : ∀ b, B b → SameAt wb w' b := fun b hb => (hB b hb).trans' (SameAt.of_heap (hheap b hb).1)
    refine ⟨hB', hD G0 w0 σ0 B wb G' Gt _ w' hR' ?_ (hk.trans hkp.toKf) (hx.trans hfx) hnone hBi hBo hB' (fun b hb => ⟨Nat.lt_of_lt_of_le (hown b hb).1 hkp.size, (hheap b hb).2⟩)⟩
    have hT' : R Gt τ a w' := hT.world hkp.size (fun b q hb => SameAt.of_heap (hheap b (hBo b q hb)).1) (fun b hb => SameAt.of_heap (hheap b (hBi b hb)).1)
    cases hd' : o.dst with
    | none => exact hT'
    | some d =>
      have hn := hnone d (hd d hd')
      refine ⟨by simpa [Act.put] using hT'.size, by simpa [Act.put] using hT'.defers, fun i hi' => ?_, hT'.vars, hT'.loc, hT'.deep, hT'.immOwn, hT'.immLt, hT'.ownLt, hT'.stA, hT'.stB, hT'.stC, hT'.stBor, hT'.stAddr⟩
      by_cases e : i = d
      · subst e; rw [hn]; trivial
      · have : (a.put (some d) v).tmps.getD i undef = a.tmps.getD i undef := getD_set_other _ _ _ _ _ (Ne.symm e)
        rw [this]; exact hT'.slots i hi'
  unfold wpOp
  simp only [hi]
  cases b with
  | true =>
    rw [Fork_true] at h
    rw [if_pos hw]
    left
    unfold neK neA at h
    split at h
    · next f xs ho => exact call_wp hR ho h fun σ' G' v w' t k1 k2 k3 k4 k5 => go σ' G' v w' t k1 k2 k3 k4 k5
    · unfold ThenL at h
      split at h
      · next σ' t hop =>
        obtain ⟨x, G', w', h1, h2, h3, h4⟩ := op_out hR hop
        unfold Oper.wp
        rw [h1]
        rcases h2 with ⟨v, rfl, h2⟩ | ⟨rfl, h2⟩
        · exact go σ' G' v w' t h.2 h.1 h2 h3 h4
        · exact go σ' G' undef w' t h.2 h.1 h2 h3 h4
      · exact h.elim
  | false =>
    rw [Fork_false] at h
    rw [if_neg (by rw [hw]; simp)]
    obtain ⟨G', h1, h2, h3⟩ := skip_spec (o := o) hR
    refine go _ G' undef w _ h (fun p hp => ?_) h1 h2 h3
    simp only [List.mem_map, Option.mem_toList] at hp
    obtain ⟨d, hd', rfl⟩ := hp
    exact hd d hd'

/-- One operation only may come up. -/
theorem dw_next (i : Nat) {Q : St → Prop} {fuel : Nat} {listed : Array Bool} {b : Bool} (hr : Region.ready .any ops listed = [i]) (hi : ops[i]? = some o) (hd : ∀ d, o.dst = some d → Pl.s d ∈ L) (hg : guardS ops σ o = some b)
    (h : Fork b (neK P L o fun σ' => DW P ops L Q fuel (listed.setIfInBounds i true) σ' τ) (skipK o fun σ' => DW P ops L Q fuel (listed.setIfInBounds i true) σ' τ) σ) : DW P ops L Q (fuel + 1) listed σ τ := by
  intro G0 w0 σ0 B wb G Gt a w hR hT hk hx hnone hBi hBo hB hown
  refine wpAnyH_all hr (by simp) fun j hj => ?_
  simp only [List.mem_singleton] at hj
  subst hj
  exact dw_one hd hg h hR hT hk hx hnone hBi hBo hB hown hi

/-- Two may come up. -/
theorem dw_two (i j : Nat) {o' : Oper} {Q : St → Prop} {fuel : Nat} {listed : Array Bool} {b b' : Bool} (hr : Region.ready .any ops listed = [i, j]) (hi : ops[i]? = some o) (hj : ops[j]? = some o')
    (hd : ∀ d, o.dst = some d → Pl.s d ∈ L) (hd' : ∀ d, o'.dst = some d → Pl.s d ∈ L) (hg : guardS ops σ o = some b) (hg' : guardS ops σ o' = some b')
    (h : Fork b (neK P L o fun σ' => DW P ops L Q fuel (listed.setIfInBounds i true) σ' τ) (skipK o fun σ' => DW P ops L Q fuel (listed.setIfInBounds i true) σ' τ) σ)
    (h' : Fork b' (neK P L o' fun σ' => DW P ops L Q fuel (listed.setIfInBounds j true) σ' τ) (skipK o' fun σ' => DW P ops L Q fuel (listed.setIfInBounds j true) σ' τ) σ) : DW P ops L Q (fuel + 1) listed σ τ := by
  intro G0 w0 σ0 B wb G Gt a w hR hT hk hx hnone hBi hBo hB hown
  refine wpAnyH_all hr (by simp) fun l hl => ?_
  simp only [List.mem_cons, List.not_mem_nil, or_false] at hl
  rcases hl with rfl | rfl
  · exact dw_one hd hg h hR hT hk hx hnone hBi hBo hB hown hi
  · exact dw_one hd' hg' h' hR hT hk hx hnone hBi hBo hB hown hj

theorem dw_done {Q : St → Prop} {listed : Array Bool} (hr : Region.ready .any ops listed = []) (h : Q σ) {fuel : Nat} : DW P ops L Q fuel listed σ τ := by
  intro G0 w0 σ0 B wb G Gt a w hR hT hk hx hnone hBi hBo hB hown
  exact wpAnyH_done hr ⟨σ, G, ⟨rfl, h⟩, .inl rfl, hR, hk, hx⟩ fuel

/-! ### Many steps at once -/
def dstIn (L : List Pl) (o : Oper) : Bool := match o.dst with
  | some d => L.contains (.s d)
  | Option.none => true
def dstOut (L : List Pl) (o : Oper) : Bool := match o.dst with
  | some d => !L.contains (.s d)
  | Option.none => false
def takeOk (ops : Array Oper) (L : List Pl) : Array Bool → List Nat → Bool
  | _, [] => true
  | listed, i :: r => (ops[i]?.map (dstOut L)).getD false && Region.noSelect ops && Region.free .any ops listed i && (Region.ready .any ops listed).contains i && takeOk ops L (listed.setIfInBounds i true) r
def setAll : Array Bool → List Nat → Array Bool
  | listed, [] => listed
  | listed, i :: r => setAll (listed.setIfInBounds i true) r
def takeK (P : Program) (o : Oper) (K : St → St → Prop) (τ σ : St) : Prop := match o.dst, rdS P σ o, rdS P τ o with
  | some d, some sv, some sv' => d < σ.n ∧ d < τ.n ∧ K (σ.put d sv) (τ.put d sv')
  | _, _, _ => False
def skip2K (o : Oper) (K : St → St → Prop) (τ σ : St) : Prop := match o.dst with
  | some d => d < σ.n ∧ d < τ.n ∧ K (σ.put d (.one (.lit undef))) (τ.put d (.one (.lit undef)))
  | Option.none => False
def takesA (P : Program) (ops : Array Oper) (K : St → St → Prop) : List Nat → St → St → Prop
  | [], σ, τ => K σ τ
  | i :: r, σ, τ => match ops[i]? with
    | some o => match guardS ops σ o with
      | some b => Fork b (takeK P o (takesA P ops K r) τ) (skip2K o (takesA P ops K r) τ) σ
      | Option.none => False
    | Option.none => False

theorem dw_takes {Q : St → Prop} : ∀ (l : List Nat) {fuel fuel' : Nat} {listed : Array Bool} {σ τ : St} (hf : fuel' = fuel + l.length) (hok : takeOk ops L listed l = true)
    (h : takesA P ops (fun σ τ => DW P ops L Q fuel (setAll listed l) σ τ) l σ τ), DW P ops L Q fuel' listed σ τ
  | [], fuel, fuel', listed, σ, τ, hf, hok, h => by subst hf; exact h
  | i :: r, fuel, fuel', listed, σ, τ, hf, hok, h => by
    subst hf
    simp only [takeOk, Bool.and_eq_true] at hok
    obtain ⟨⟨⟨⟨h1, h2⟩, h3⟩, h4⟩, h5⟩ := hok
    simp only [takesA] at h
    split at h
    · next o hi =>
      split at h
      · next b hg =>
        simp only [hi, Option.map_some, Option.getD_some] at h1
        have hL : ∀ d, o.dst = some d → Pl.s d ∉ L := fun d hd => by simpa [dstOut, hd] using h1
        rw [show fuel + (i :: r).length = (fuel + r.length) + 1 by simp; omega]
        cases b with
        | true =>
          rw [Fork_true] at h
          unfold takeK at h
          split at h
          · next d sv sv' hd hs hs' =>
            exact dw_take i hi h2 h3 h4 hd hg h.1 h.2.1 (hL d hd) (fun _ => hs) (fun _ => hs') (fun _ => dw_takes r rfl h5 h.2.2) (fun e => by cases e)
          · exact h.elim
        | false =>
          rw [Fork_false] at h
          unfold skip2K at h
          split at h
          · next d hd => exact dw_skip i hi h2 h3 h4 hd hg h.1 h.2.1 (hL d hd) (dw_takes r rfl h5 h.2.2)
          · exact h.elim
      · exact h.elim
    · exact h.elim

def nextA (P : Program) (ops : Array Oper) (L : List Pl) (i : Nat) (K : St → Prop) (σ : St) : Prop := match ops[i]? with
  | some o => match guardS ops σ o with
    | some b => Fork b (neK P L o K) (skipK o K) σ
    | Option.none => False
  | Option.none => False

theorem dstIn_spec (h : dstIn L o = true) : ∀ d, o.dst = some d → Pl.s d ∈ L := fun d hd => by simpa [dstIn, hd] using h

theorem dw_nextA (i : Nat) {Q : St → Prop} {fuel : Nat} {listed : Array Bool} (hok : (Region.ready .any ops listed == [i] && (ops[i]?.map (dstIn L)).getD false) = true)
    (h : nextA P ops L i (fun σ' => DW P ops L Q fuel (listed.setIfInBounds i true) σ' τ) σ) : DW P ops L Q (fuel + 1) listed σ τ := by
  simp only [Bool.and_eq_true, beq_iff_eq] at hok
  unfold nextA at h
  split at h
  · next o hi =>
    have hd : dstIn L o = true := by simpa [hi] using hok.2
    split at h
    · next b hg => exact dw_next i hok.1 hi (dstIn_spec hd) hg h
    · exact h.elim
  · exact h.elim

theorem dw_twoA (i j : Nat) {Q : St → Prop} {fuel : Nat} {listed : Array Bool} (hok : (Region.ready .any ops listed == [i, j] && (ops[i]?.map (dstIn L)).getD false && (ops[j]?.map (dstIn L)).getD false) = true)
    (h : nextA P ops L i (fun σ' => DW P ops L Q fuel (listed.setIfInBounds i true) σ' τ) σ) (h' : nextA P ops L j (fun σ' => DW P ops L Q fuel (listed.setIfInBounds j true) σ' τ) σ) : DW P ops L Q (fuel + 1) listed σ τ := by
  simp only [Bool.and_eq_true, beq_iff_eq] at hok
  unfold nextA at h h'
  split at h
  · next o hi =>
    have hd : dstIn L o = true := by simpa [hi] using hok.1.2
    split at h
    · next b hg =>
      split at h'
      · next o' hj =>
        have hd' : dstIn L o' = true := by simpa [hj] using hok.2
        split at h'
        · next b' hg' => exact dw_two i j hok.1.1 hi hj (dstIn_spec hd) (dstIn_spec hd') hg hg' h h'
        · exact h'.elim
      · exact h'.elim
    · exact h.elim
  · exact h.elim

theorem dw_knowA (L' : List Pl) (d : Nat) {Q : St → Prop} {fuel : Nat} {listed : Array Bool} (hL : (L'.all (L.contains ·) && !L'.contains (.s d)) = true)
    (h : (σ.rd (.tmp d)).lits = true ∧ d < σ.n ∧ d < τ.n ∧ DW P ops L' Q fuel listed σ (τ.put d (σ.rd (.tmp d)))) : DW P ops L Q fuel listed σ τ := by
  simp only [Bool.and_eq_true, List.all_eq_true, List.contains_iff_mem, Bool.not_eq_true'] at hL
  refine dw_knowS L' d rfl h.1 h.2.1 h.2.2.1 hL.1 (fun hd => ?_) h.2.2.2
  have := List.contains_iff_mem.2 hd
  rw [this] at hL; exact absurd hL.2 (by simp)

end

section
variable {σ : St} {i k : Nat} {p : Pl} {ij : Nat × Nat} {L : List Pl}
theorem forget_n : (σ.forget L).n = σ.n := rfl
theorem forget_sl : (σ.forget L).sl i = if Pl.s i ∈ L then .none else σ.sl i := rfl
theorem forget_vr : (σ.forget L).vr k = if Pl.v k ∈ L then Option.none else σ.vr k := rfl
theorem forget_sa : (σ.forget L).sa k = σ.sa k := rfl
theorem forget_sb : (σ.forget L).sb p ij = σ.sb p ij := rfl
theorem forget_sc : (σ.forget L).sc p ij = σ.sc p ij := rfl
theorem forget_tick : (σ.forget L).tick = σ.tick := rfl
end
@[go_sem] theorem takesA_nil {P : Program} {ops : Array Oper} {K : St → St → Prop} {σ τ : St} : takesA P ops K [] σ τ = K σ τ := rfl
@[go_sem] theorem takesA_cons {P : Program} {ops : Array Oper} {K : St → St → Prop} {i : Nat} {r : List Nat} {σ τ : St} : takesA P ops K (i :: r) σ τ = match ops[i]? with
    | some o => match guardS ops σ o with
      | some b => Fork b (takeK P o (takesA P ops K r) τ) (skip2K o (takesA P ops K r) τ) σ
      | Option.none => False
    | Option.none => False := rfl
@[go_sem] theorem takeK_eq {P : Program} {o : Oper} {K : St → St → Prop} {σ τ : St} : takeK P o K τ σ = match o.dst, rdS P σ o, rdS P τ o with
  | some d, some sv, some sv' => d < σ.n ∧ d < τ.n ∧ K (σ.put d sv) (τ.put d sv')
  | _, _, _ => False := rfl
@[go_sem] theorem skip2K_eq {o : Oper} {K : St → St → Prop} {σ τ : St} : skip2K o K τ σ = match o.dst with
  | some d => d < σ.n ∧ d < τ.n ∧ K (σ.put d (.one (.lit undef))) (τ.put d (.one (.lit undef)))
  | Option.none => False := rfl
attribute [go_sem] nextA SV.lits D.isLit builtinS
theorem neK_eq {P : Program} {L : List Pl} {o : Oper} {K : St → Prop} {σ : St} : neK P L o K σ = neA P L σ o K := rfl
attribute [go_sem] St.claimsT St.claimT List.append_nil List.nil_append
attribute [go_sem] neK_eq neA ThenL_some forget_n forget_sl forget_vr forget_sa forget_sb forget_sc forget_tick List.mem_cons List.not_mem_nil List.mem_singleton
end Go.AI

/-
  The abstract interpreter, part Zi: a state is written down anew before a region (the walk's cuts).
-/
namespace Go.AI
open Go.RowKit

def firstR : Code → Option Nat
  | .seq x _ => firstR x
  | .region id _ _ => some id
  | _ => Option.none

section
variable {P : Program} {σ τ : St} {c : Code} {Q : Exit → St → Prop}

theorem swp_cut_put (k : Nat) {d : Nat} {sv : SV} (hk : firstR c = some k) (τ : St) (hle : Le (σ.put d sv) τ) (h : SWP P c Q τ) : SWP P c Q (σ.put d sv) := swp_le hle h
theorem swp_cut_bump (k : Nat) {p : Pl} {i j : Nat} (hk : firstR c = some k) (τ : St) (hle : Le (σ.bump p i j) τ) (h : SWP P c Q τ) : SWP P c Q (σ.bump p i j) := swp_le hle h
theorem swp_cut_res (k : Nat) {d : Nat} {sv : SV} (hk : firstR c = some k) (τ : St) (hle : Le (σ.res d sv) τ) (h : SWP P c Q τ) : SWP P c Q (σ.res d sv) := swp_le hle h
end
end Go.AI

/-
  The abstract interpreter, part Zj: what a law is handed, told as data; what a law leaves behind.
-/
namespace Go.AI
open Go.RowKit Go.WideShapes Go.ChangeAt

def layOk (P : Program) : Nat → List Field → Nat → Bool
  | off, [], sz => off == sz
  | off, f :: r, sz => f.offset == off && layOk P (off + P.cellsOf f.type) r sz

/-- The types that are told. -/
def okT (P : Program) : Nat → TypeId → Bool
  | 0, _ => false
  | n + 1, t => match P.underlying t with
    | some .bool => P.cellsOf t == 1
    | some (.int _) => P.cellsOf t == 1
    | some .string => P.cellsOf t == 1
    | some (.slice e) => P.cellsOf t == 1 && decide (0 < P.cellsOf e) && okT P n e
    | some (.struct fs) => layOk P 0 fs.toList (P.cellsOf t) && fs.toList.all (fun f => okT P n f.type)
    | _ => false

def ShL (p : TypeId → List D → Prop) : List TypeId → List D → Prop
  | [], ds => ds = []
  | t :: r, ds => ∃ d1 d2, ds = d1 ++ d2 ∧ p t d1 ∧ ShL p r d2

/-- What data of a type looks like. -/
def Sh (P : Program) : Nat → TypeId → List D → Prop
  | 0, _, _ => False
  | n + 1, t, ds => match P.underlying t with
    | some .bool => ∃ b, ds = [.lit (.bool b)]
    | some (.int k) => ∃ z, ds = [.lit (.int k z)] ∧ (Lit.int k z).wf = true
    | some .string => ∃ s : ByteArray, ds = [.lit (.string s)] ∧ s.size ≤ 140737488355328
    | some (.slice e) => ∃ rows, ds = [.sl false (P.cellsOf e) rows] ∧ rows.length * P.bytesOf e ≤ 140737488355328 ∧ ∀ row ∈ rows, Sh P n e row
    | some (.struct fs) => ShL (Sh P n) (fs.toList.map (·.type)) ds
    | _ => False

def ROs (imm : Nat → Prop) (w : World) (cs : List Value) (ds : List D) : Prop :=
  ds.length = cs.length ∧ ∀ (j : Nat) x, ds[j]? = some x → ∃ u, cs[j]? = some u ∧ RO imm w x u

theorem ROs.one {imm : Nat → Prop} {w : World} {u : Value} {d : D} (h : RO imm w d u) : ROs imm w [u] [d] := by
  refine ⟨rfl, fun j x hx => ?_⟩
  cases j with
  | zero => simp at hx; subst hx; exact ⟨u, rfl, h⟩
  | succ j => simp at hx

theorem ROs.append {imm : Nat → Prop} {w : World} {cs cs' : List Value} {ds ds' : List D} (h : ROs imm w cs ds) (h' : ROs imm w cs' ds') : ROs imm w (cs ++ cs') (ds ++ ds') := by
  refine ⟨by simp [h.1, h'.1], fun j x hx => ?_⟩
  rcases Nat.lt_or_ge j ds.length with hj | hj
  · rw [List.getElem?_append_left hj] at hx
    obtain ⟨u, h1, h2⟩ := h.2 j x hx
    exact ⟨u, by rw [List.getElem?_append_left (by rw [← h.1]; exact hj)]; exact h1, h2⟩
  · rw [List.getElem?_append_right hj] at hx
    obtain ⟨u, h1, h2⟩ := h'.2 _ x hx
    exact ⟨u, by rw [List.getElem?_append_right (by rw [← h.1]; exact hj), ← h.1]; exact h1, h2⟩

theorem list_choose {α : Type} {p : Nat → α → Prop} : ∀ {n : Nat}, (∀ i, i < n → ∃ x, p i x) → ∃ l : List α, l.length = n ∧ ∀ (i : Nat) x, l[i]? = some x → p i x
  | 0, _ => ⟨[], rfl, fun i x h => by simp at h⟩
  | n + 1, h => by
    obtain ⟨l, h1, h2⟩ := list_choose (n := n) (p := p) fun i hi => h i (by omega)
    obtain ⟨x, hx⟩ := h n (by omega)
    refine ⟨l ++ [x], by simp [h1], fun i y hy => ?_⟩
    rcases Nat.lt_or_ge i n with hi | hi
    · rw [List.getElem?_append_left (by omega)] at hy; exact h2 i y hy
    · rw [List.getElem?_append_right (by omega)] at hy
      have : i = n := by
        have := (List.getElem?_eq_some_iff.1 hy).1
        simp at this; omega
      subst this
      rw [h1, Nat.sub_self] at hy
      simp at hy; subst hy; exact hx

theorem weightsAll_mem {H : Type} {P : Program} {e : TypeId} : ∀ {l : List (DataW H)} {d : DataW H}, d ∈ l → ∀ n ∈ d.weights P e, n ∈ DataW.weightsAll P e l
  | x :: l, d, hd, n, hn => by
    simp only [DataW.weightsAll, List.mem_append]
    rcases List.mem_cons.1 hd with rfl | hd
    · exact .inl hn
    · exact .inr (weightsAll_mem hd n hn)

theorem cells?_spec {w : World} {base : Nat} {a : Addr} {n : Nat} {cs : List Value} (h : w.cells? base a n = some cs) : cs.length = n ∧ ∀ j, j < n → w.cell? (a.add j) = cs[j]? := by
  unfold World.cells? at h
  split at h
  · refine ⟨by simpa using mapM_some_length h, fun j hj => ?_⟩
    exact mapM_some_get h j j (by simp [hj])
  · cases h

section
variable {H : Type} {enc : TypeId × Value → H} {P : Program} {w : World} {base : Nat} {spare : Nat → Bool} {held : Bool}

theorem open_fields {n : Nat} (ih : ∀ t, okT P n t = true → ∀ fuel cs d ps, DataW.trod enc P w base spare held fuel t cs = some (d, ps) → (∀ m ∈ d.weights P t, m ≤ reachBytes) → ∃ ds, cs.length = P.cellsOf t ∧ ROs (fun b => b < w.heap.size) w cs ds ∧ Sh P n t ds) :
    ∀ (fs : List Field) (off : Nat) (cs : List Value) (fuel : Nat) (xs : List (DataW H × List MemPlace)), layOk P off fs cs.length = true → (∀ f ∈ fs, okT P n f.type = true) → xs.length = fs.length →
      (∀ (i : Nat) f, fs[i]? = some f → DataW.trod enc P w base spare held fuel f.type ((cs.drop f.offset).take (P.cellsOf f.type)) = xs[i]?) →
      (∀ (i : Nat) f x, fs[i]? = some f → xs[i]? = some x → ∀ m ∈ x.1.weights P f.type, m ≤ reachBytes) → off ≤ cs.length →
      ∃ ds, ROs (fun b => b < w.heap.size) w (cs.drop off) ds ∧ ShL (Sh P n) (fs.map (·.type)) ds
  | [], off, cs, fuel, xs, hl, _, _, _, _, _ => by
    simp only [layOk, beq_iff_eq] at hl
    refine ⟨[], ⟨by simp; omega, fun j x hx => by simp at hx⟩, rfl⟩
  | f :: r, off, cs, fuel, [], hl, hk, hx, ht, hw, ho => by simp at hx
  | f :: r, off, cs, fuel, x :: xs, hl, hk, hx, ht, hw, ho => by
    simp only [layOk, Bool.and_eq_true, beq_iff_eq] at hl
    obtain ⟨h1, h2⟩ := hl
    have h3 := ht 0 f rfl
    simp only [List.getElem?_cons_zero] at h3
    obtain ⟨d, ps⟩ := x
    obtain ⟨ds1, q1, q2, q3⟩ := ih f.type (hk f (by simp)) fuel _ d ps h3 (hw 0 f (d, ps) rfl rfl)
    have hlen : P.cellsOf f.type ≤ cs.length - f.offset := by
      simp only [List.length_take, List.length_drop] at q1; omega
    rw [h1] at hlen q2
    obtain ⟨ds2, q4, q5⟩ := open_fields ih r (off + P.cellsOf f.type) cs fuel xs h2 (fun f' hf' => hk f' (by simp [hf'])) (by simpa using hx) (fun i f' hf' => by simpa using ht (i + 1) f' (by simpa using hf'))
      (fun i f' x' hf' hx' => hw (i + 1) f' x' (by simpa using hf') (by simpa using hx')) (by omega)
    refine ⟨ds1 ++ ds2, ?_, ds1, ds2, rfl, q3, q5⟩
    have := q2.append q4
    rwa [← List.drop_drop, List.take_append_drop] at this

/-- WHAT IS READ, TOLD AS DATA. -/
theorem open_data : ∀ (n : Nat) (t : TypeId), okT P n t = true → ∀ (fuel : Nat) (cs : List Value) (d : DataW H) (ps : List MemPlace), DataW.trod enc P w base spare held fuel t cs = some (d, ps) → (∀ m ∈ d.weights P t, m ≤ reachBytes) →
    ∃ ds, cs.length = P.cellsOf t ∧ ROs (fun b => b < w.heap.size) w cs ds ∧ Sh P n t ds
  | 0, t, h, _, _, _, _, _, _ => by simp [okT] at h
  | n + 1, t, h, fuel, cs, d, ps, ht, hw => by
    unfold okT at h
    unfold Sh
    split at h
    · next hu =>
      obtain ⟨b, h1, _⟩ := DataW.trod_bool hu ht
      subst h1
      exact ⟨_, by have := beq_iff_eq.1 h; simp [this], ROs.one (RO.lit.2 rfl), b, rfl⟩
    · next k hu =>
      obtain ⟨z, h1, _, h2⟩ := DataW.trod_int hu ht
      subst h1
      exact ⟨_, by have := beq_iff_eq.1 h; simp [this], ROs.one (RO.lit.2 rfl), z, rfl, h2⟩
    · next hu =>
      obtain ⟨s, h1, h2, _⟩ := DataW.trod_string hu ht
      subst h1
      simp only [Prod.mk.injEq] at h2
      have := hw s.data.toList.length (by rw [h2.1]; simp [DataW.weights])
      exact ⟨_, by have := beq_iff_eq.1 h; simp [this], ROs.one (RO.lit.2 rfl), s, rfl, by have := reachBytes_lt; simp at *; exact Nat.le_of_lt (Nat.lt_of_le_of_lt ‹_› this)⟩
    · next e hu =>
      simp only [Bool.and_eq_true, decide_eq_true_eq, beq_iff_eq] at h
      obtain ⟨⟨hc, he0⟩, he⟩ := h
      rcases DataW.trod_slice hu ht with ⟨rfl, hx⟩ | ⟨a, len, cap, elems, rest, m, rfl, rfl, hx, hb, hl, hm, hlen, hel, hsp, hns⟩
      · refine ⟨[.sl false (P.cellsOf e) []], by simpa using hc.symm, ROs.one RO.sliceNone, [], rfl, by simp, by simp⟩
      · simp only [Prod.mk.injEq] at hx
        obtain ⟨rfl, _⟩ := hx
        have hwe : ∀ (i : Nat) x, elems[i]? = some x → ∀ m ∈ x.1.weights P e, m ≤ reachBytes := fun i x hx' m hm' => by
          refine hw m ?_
          simp only [DataW.weights, hu, List.mem_cons, List.mem_append]
          exact .inr (.inl (weightsAll_mem (List.mem_map.2 ⟨x, List.mem_of_getElem? hx', rfl⟩) m hm'))
        have hstep : ∀ i, i < len → ∃ row, ∃ csi, w.cells? base (a.add (i * P.cellsOf e)) (P.cellsOf e) = some csi ∧ ROs (fun b => b < w.heap.size) w csi row ∧ Sh P n e row := fun i hi => by
          have h1 := hel i hi
          have h2 : i < elems.length := by omega
          rw [List.getElem?_eq_getElem h2, Option.bind_eq_some_iff] at h1
          obtain ⟨csi, h3, h4⟩ := h1
          obtain ⟨ds, _, h6, h7⟩ := open_data n e he m csi elems[i].1 elems[i].2 h4 (hwe i elems[i] (List.getElem?_eq_getElem h2))
          exact ⟨ds, csi, h3, h6, h7⟩
        obtain ⟨rows, hr1, hr2⟩ := list_choose hstep
        have hbytes : rows.length * P.bytesOf e ≤ 140737488355328 := by
          have h1 := hw ((elems.length + rest.length) * P.bytesOf e) (by simp [DataW.weights, hu])
          have h2 := reachBytes_lt
          have h3 : rows.length * P.bytesOf e ≤ (elems.length + rest.length) * P.bytesOf e := Nat.mul_le_mul_right _ (by omega)
          have h4 : (2 : Nat) ^ 47 = 140737488355328 := by decide
          omega
        refine ⟨[.sl false (P.cellsOf e) rows], by simpa using hc.symm, ROs.one ?_, rows, rfl, hbytes, fun row hrow => ?_⟩
        · by_cases h0 : len = 0
          · subst h0
            have : rows = [] := List.length_eq_zero_iff.1 hr1
            subst this
            exact RO.sliceNone
          · obtain ⟨cs0, h1, h2⟩ : ∃ cs0, w.cells? base (a.add (0 * P.cellsOf e)) (P.cellsOf e) = some cs0 ∧ True := by
              obtain ⟨_, csi, h3, _⟩ := hstep 0 (by omega); exact ⟨csi, h3, trivial⟩
            have hcell : ∀ i j, i < len → j < P.cellsOf e → ∃ u, w.cell? ((a.add (i * P.cellsOf e)).add j) = some u := fun i j hi hj => by
              obtain ⟨_, csi, h3, _⟩ := hstep i hi
              obtain ⟨h4, h5⟩ := cells?_spec h3
              exact ⟨csi[j]'(by omega), by rw [h5 j hj]; exact List.getElem?_eq_getElem (by omega)⟩
            have hspot : a.spot = Option.none := by
              obtain ⟨u, hu'⟩ := hcell 0 0 (by omega) he0
              unfold World.cell? at hu'
              split at hu'
              · split at hu'
                · cases hu'
                · next hs => 
                  cases hsp' : a.spot with
                  | none => rfl
                  | some q => exfalso; apply hs; simp [Addr.add, hsp']
              · cases hu'
            obtain ⟨b, o, sp⟩ := a
            simp only at hspot
            subst hspot
            have hadd : ∀ i j, ((⟨b, o, Option.none⟩ : Addr).add (i * P.cellsOf e)).add j = ⟨b, o + i * P.cellsOf e + j, Option.none⟩ := fun i j => by
              rw [Addr.add_mid, Addr.add_mid]
            rw [← hr1]
            refine RO.slice (fun i j => (w.cell? ⟨b, o + i * P.cellsOf e + j, Option.none⟩).getD undef) (by omega) ?_ (fun i row hrow => ?_) (fun i j x hx => ?_)
            · have := World.cells?_block h1 he0
              rw [Addr.add_mid] at this; exact this
            · obtain ⟨csi, h3, h4, _⟩ := hr2 i row hrow
              obtain ⟨h5, h6⟩ := cells?_spec h3
              have hi : i < len := by have := (List.getElem?_eq_some_iff.1 hrow).1; omega
              refine ⟨by rw [h4.1, h5], fun j hj => ?_⟩
              obtain ⟨u, hu'⟩ := hcell i j hi hj
              rw [hadd] at hu'
              rw [hu']; rfl
            · obtain ⟨row, hrow, hx⟩ := cellIn_some.1 hx
              obtain ⟨csi, h3, h4, _⟩ := hr2 i row hrow
              obtain ⟨h5, h6⟩ := cells?_spec h3
              obtain ⟨u, h7, h8⟩ := h4.2 j x hx
              have hj : j < P.cellsOf e := by have := (List.getElem?_eq_some_iff.1 h7).1; omega
              have h9 := h6 j hj
              rw [hadd, h7] at h9
              rw [h9]; exact h8
        · obtain ⟨i, hi, rfl⟩ := List.getElem_of_mem hrow
          obtain ⟨_, _, _, h7⟩ := hr2 i _ (List.getElem?_eq_getElem hi)
          exact h7
    · next fs hu =>
      simp only [Bool.and_eq_true, List.all_eq_true] at h
      obtain ⟨xs, m, rfl, hx, hlen, hxl, hf⟩ := DataW.trod_struct hu ht
      simp only [Prod.mk.injEq] at hx
      obtain ⟨rfl, _⟩ := hx
      obtain ⟨ds, q1, q2⟩ := open_fields (open_data n) fs.toList 0 cs m xs (by rw [hlen]; exact h.1) h.2 (by simpa using hxl) (fun i f hfi => hf i f (by simpa using hfi)) (fun i f x hfi hxi k hk => by
        refine hw k ?_
        simp only [DataW.weights, hu]
        exact DataW.weights_mem_each (j := i) (t := f.type) (d := x.1) (by simp [hfi]) (by simp [hxi]) k hk) (Nat.zero_le _)
      exact ⟨ds, hlen, by simpa using q1, q2⟩
    · cases h

end
end Go.AI

/-
  The abstract interpreter, part Zk: a law, called.
-/
namespace Go.AI
open Go.RowKit Go.WideShapes Go.ChangeAt

def TellRO (imm : Nat → Prop) (w : World) : SV → Value → Prop
  | .one d, v => RO imm w d v
  | .agg ds, v => ∃ us : List Value, v = .agg us.toArray ∧ ROs imm w us ds
  | _, _ => False

def cellFor : Option SV → Option Value → Nat → Value
  | some (.one _), some v, _ => v
  | some (.agg _), some (.agg us), j => us.getD j undef
  | _, _, _ => undef

def Gh.start (svs : List SV) (vs : List Value) (w : World) : Gh where
  val p π := match p, π with
    | .s i, [(_, j)] => cellFor svs[i]? vs[i]? j
    | _, _ => undef
  own _ := Option.none
  imm b := b < w.heap.size
  blk _ := 0

theorem ro_locV {G : Gh} {w : World} {σ : St} {d : D} {v : Value} (h : RO G.imm w d v) (ho : d.isOwn = false) : LocV G w σ v d ∧ d.refLt σ.tick := by
  have h0 : ∃ f, ROloc G.imm w f [] d := by obtain ⟨f, _, h2⟩ := h; exact ⟨f, h2 [] d rfl⟩
  cases d with
  | lit u => exact ⟨h, trivial⟩
  | nil => exact ⟨h, trivial⟩
  | sl u sz rows => cases u with
    | true => simp [D.isOwn] at ho
    | false => exact ⟨h, trivial⟩
  | raddr row => exact ⟨h, trivial⟩
  | clo g caps => exact ⟨h, trivial⟩
  | bor => obtain ⟨f, h0⟩ := h0; exact h0.elim
  | addr => obtain ⟨f, h0⟩ := h0; exact h0.elim
  | dead => obtain ⟨f, h0⟩ := h0; exact h0.elim

theorem R.start {svs : List SV} {vs : List Value} {w : World} (hl : vs.length = svs.length) (hs : ∀ (i : Nat) sv, svs[i]? = some sv → ∃ v, vs[i]? = some v ∧ TellRO (fun b => b < w.heap.size) w sv v)
    (hn : ∀ sv ∈ svs, ∀ d ∈ sv.rows.flatten, d.isOwn = false) : R (Gh.start svs vs w) (pst svs fun _ => Option.none) { tmps := vs.toArray, defers := [] } w := by
  have hcell : ∀ {p π d}, (pst svs fun _ => Option.none).cell p π = some d → ∃ i k j, p = .s i ∧ π = [(k, j)] ∧ LocV (Gh.start svs vs w) w (pst svs fun _ => Option.none) ((Gh.start svs vs w).val p π) d ∧ d.isOwn = false ∧ d.refLt 1 := by
    intro p π d hd
    cases π with
    | nil => simp [St.cell] at hd
    | cons ij π =>
      cases p with
      | v k => simp [St.cell, St.rows, pst, cellIn] at hd
      | s i =>
        obtain ⟨k, j⟩ := ij
        simp only [St.cell, St.rows, pst] at hd
        cases hsv : svs[i]? with
        | none => rw [hsv] at hd; simp [SV.rows, cellIn] at hd
        | some sv =>
          rw [hsv] at hd
          simp only [Option.getD_some] at hd
          cases hc : cellIn sv.rows (k, j) with
          | none => rw [hc] at hd; cases hd
          | some x =>
            rw [hc] at hd
            obtain ⟨v, hv, ht⟩ := hs i sv hsv
            have hx : x.isOwn = false := by
              obtain ⟨row, h1, h2⟩ := cellIn_some.1 hc
              exact hn sv (List.mem_of_getElem? hsv) x (List.mem_flatten.2 ⟨row, List.mem_of_getElem? h1, List.mem_of_getElem? h2⟩)
            have hπ : π = [] := by
              cases π with
              | nil => rfl
              | cons kl π =>
                simp only [D.atU] at hd
                cases x with
                | sl u sz rows => cases u with
                  | true => simp [D.isOwn] at hx
                  | false => simp [D.atU] at hd
                | _ => simp [D.atU] at hd
            subst hπ
            simp [D.atU] at hd
            subst hd
            refine ⟨i, k, j, rfl, rfl, ?_⟩
            have key : RO (fun b => b < w.heap.size) w x (cellFor svs[i]? vs[i]? j) := by
              rw [hsv, hv]
              cases sv with
              | none => exact ht.elim
              | tup cs => exact ht.elim
              | one d' =>
                obtain ⟨row, h1, h2⟩ := cellIn_some.1 hc
                cases k with
                | succ k => simp [SV.rows] at h1
                | zero =>
                  simp [SV.rows] at h1; subst h1
                  cases j with
                  | succ j => simp at h2
                  | zero => simp at h2; subst h2; exact ht
              | agg ds =>
                obtain ⟨us, rfl, h3, h4⟩ := ht
                obtain ⟨row, h1, h2⟩ := cellIn_some.1 hc
                cases k with
                | succ k => simp [SV.rows] at h1
                | zero =>
                  simp [SV.rows] at h1; subst h1
                  obtain ⟨u, h5, h6⟩ := h4 j x h2
                  simp only [cellFor]
                  have : us.toArray.getD j undef = u := by simp [Array.getD_eq_getD_getElem?, h5]
                  rw [this]; exact h6
            obtain ⟨q1, q2⟩ := ro_locV (G := Gh.start svs vs w) (σ := pst svs fun _ => Option.none) key hx
            exact ⟨q1, hx, q2⟩
  refine ⟨by simp [pst, hl], rfl, fun i hi => ?_, fun k ds hk => by simp [pst] at hk, fun p π d hd => ?_, fun p ij kl ρ d hd => ?_, fun b hb => rfl, fun b hb => hb, fun b q hb => by simp [Gh.start] at hb, fun k => by simp [pst], fun p ij => by simp [pst], fun p ij => by simp [pst],
    fun p π q ρ n rg hd => ?_, fun p π q ρ i j n hd => ?_⟩
  · simp only [pst] at hi ⊢
    have hsv : svs[i]? = some svs[i] := List.getElem?_eq_getElem hi
    obtain ⟨v, hv, ht⟩ := hs i _ hsv
    have hg : vs.toArray.getD i undef = v := by simp [Array.getD_eq_getD_getElem?, hv]
    rw [hg, hsv]
    simp only [Option.getD_some]
    have hval : ∀ k j, (Gh.start svs vs w).val (.s i) [(k, j)] = cellFor (some svs[i]) (some v) j := fun k j => by simp only [Gh.start, hsv, hv]
    generalize svs[i] = sv at ht hval
    cases sv with
    | none => trivial
    | tup cs => exact ht.elim
    | one d => simp only [SVrel, hval, cellFor]
    | agg ds =>
      obtain ⟨us, rfl, h3, h4⟩ := ht
      simp only [SVrel, vals, hval, cellFor]
      congr 2
      refine List.ext_getElem (by simp [h3]) fun j h1 h2 => ?_
      simp [Array.getD_eq_getD_getElem?, h1]
  · obtain ⟨i, k, j, rfl, rfl, h1, h2, _⟩ := hcell hd
    exact Loc.ofV h1
  · obtain ⟨i, k, j, _, h, _⟩ := hcell hd
    simp at h
  · obtain ⟨i, k, j, _, _, _, _, h⟩ := hcell hd; exact h
  · obtain ⟨i', k, j', _, _, _, _, h⟩ := hcell hd; exact h

/-- A LAW, CALLED: it returns what it was shown to return, and nothing that stood has turned. -/
theorem law_calls {P : Program} {f : FuncId} {svs : List SV} {vs : List Value} {w : World} {u : Value} (h : AC P f svs (fun _ => Option.none) (fun sv _ => sv = .one (.lit u)))
    (hl : vs.length = svs.length) (hs : ∀ (i : Nat) sv, svs[i]? = some sv → ∃ v, vs[i]? = some v ∧ TellRO (fun b => b < w.heap.size) w sv v)
    (hn : ∀ sv ∈ svs, ∀ d ∈ sv.rows.flatten, d.isOwn = false) : Calls P f vs.toArray w fun e w' => e = .returned u ∧ Below w.heap.size w w' := by
  refine Calls.mono (h (Gh.start svs vs w) vs w hl (R.start hl hs hn)) fun e w' he => ?_
  cases e with
  | returned v =>
    obtain ⟨sv, E', G', rfl, h2, h3, _⟩ := he
    refine ⟨?_, h3.os, h3.tape, h3.output, h3.size, fun k hk => (h3.free k hk rfl).1⟩
    have h4 := h2.slots 0 (by simp [pst])
    have h5 := h2.loc (.s 0) [(0, 0)] (.lit u) rfl
    have h6 : G'.val (.s 0) [(0, 0)] = u := RO.lit.1 h5
    have h7 : v = G'.val (.s 0) [(0, 0)] := h4
    rw [h7, h6]
  | panicked c => exact he.elim
  | outgrown => exact he.elim

section
variable {H : Type} {enc : TypeId × Value → H} {P : Program} {w : World} {base b0 : Nat} {spare : Nat → Bool} {held : Bool} {n : Nat} {t : TypeId} {v : Value} {d : DataW H} {ps : List MemPlace} {r : Reach}

theorem arg_struct {fs : Array Field} (hok : okT P n t = true) (hu : P.underlying t = some (.struct fs)) (hval : Value.okWide P w r b0 t v) (h : DataW.Trod enc P w base spare held t v d ps) (hw : ∀ m ∈ d.weights P t, m ≤ reachBytes) :
    ∃ ds, TellRO (fun b => b < w.heap.size) w (.agg ds) v ∧ Sh P n t ds := by
  obtain ⟨cs, rfl, _⟩ := okWide_struct hu hval
  obtain ⟨fuel, hf⟩ := h
  obtain ⟨ds, _, h2, h3⟩ := open_data n t hok fuel _ d ps hf hw
  exact ⟨ds, ⟨cs.toList, by simp, h2⟩, h3⟩

theorem arg_one (hok : okT P n t = true) (hc : v.cells.toList = [v]) (h : DataW.Trod enc P w base spare held t v d ps) (hw : ∀ m ∈ d.weights P t, m ≤ reachBytes) :
    ∃ x, TellRO (fun b => b < w.heap.size) w (.one x) v ∧ Sh P n t [x] := by
  obtain ⟨fuel, hf⟩ := h
  rw [hc] at hf
  obtain ⟨ds, _, h2, h3⟩ := open_data n t hok fuel _ d ps hf hw
  obtain ⟨x, rfl⟩ : ∃ x, ds = [x] := List.length_eq_one_iff.1 h2.1
  obtain ⟨u, h4, h5⟩ := h2.2 0 x rfl
  simp at h4; subst h4
  exact ⟨x, h5, h3⟩

theorem one_int {k : IntKind} (hu : P.underlying t = some (.int k)) (hval : Value.okWide P w r b0 t v) : v.cells.toList = [v] := by obtain ⟨z, rfl⟩ := okWide_int hu hval; rfl
theorem one_bool (hu : P.underlying t = some .bool) (hval : Value.okWide P w r b0 t v) : v.cells.toList = [v] := by obtain ⟨z, rfl⟩ := okWide_bool hu hval; rfl
theorem one_string (hu : P.underlying t = some .string) (hval : Value.okWide P w r b0 t v) : v.cells.toList = [v] := by obtain ⟨z, rfl⟩ := okWide_string hu hval; rfl
theorem one_slice {e : TypeId} (hu : P.underlying t = some (.slice e)) (hval : Value.okWide P w r b0 t v) : v.cells.toList = [v] := by obtain ⟨a, len, cap, rfl⟩ := okWide_slice hu hval; rfl

theorem sh_bool {ds : List D} (hu : P.underlying t = some .bool) (h : Sh P (n + 1) t ds) : ∃ b, ds = [.lit (.bool b)] := by
  unfold Sh at h; rw [hu] at h; exact h
theorem sh_int {k : IntKind} {ds : List D} (hu : P.underlying t = some (.int k)) (h : Sh P (n + 1) t ds) : ∃ z, ds = [.lit (.int k z)] ∧ (Lit.int k z).wf = true := by
  unfold Sh at h; rw [hu] at h; exact h
theorem sh_string {ds : List D} (hu : P.underlying t = some .string) (h : Sh P (n + 1) t ds) : ∃ s : ByteArray, ds = [.lit (.string s)] ∧ s.size ≤ 140737488355328 := by
  unfold Sh at h; rw [hu] at h; exact h
theorem sh_slice {e : TypeId} {ds : List D} (hu : P.underlying t = some (.slice e)) (h : Sh P (n + 1) t ds) : ∃ rows, ds = [.sl false (P.cellsOf e) rows] ∧ rows.length * P.bytesOf e ≤ 140737488355328 ∧ ∀ row ∈ rows, Sh P n e row := by
  unfold Sh at h; rw [hu] at h; exact h
theorem sh_struct {fs : Array Field} {ds : List D} (hu : P.underlying t = some (.struct fs)) (h : Sh P (n + 1) t ds) : ShL (Sh P n) (fs.toList.map (·.type)) ds := by
  unfold Sh at h; rw [hu] at h; exact h
end

theorem rows_map {α : Type} {f : α → List D} {q : α → Prop} : ∀ {rows : List (List D)}, (∀ row ∈ rows, ∃ x, row = f x ∧ q x) → ∃ l : List α, rows = l.map f ∧ ∀ x ∈ l, q x
  | [], _ => ⟨[], rfl, fun x h => by simp at h⟩
  | row :: rows, h => by
    obtain ⟨x, rfl, hx⟩ := h row (by simp)
    obtain ⟨l, rfl, hl⟩ := rows_map (rows := rows) (f := f) (q := q) fun r hr => h r (by simp [hr])
    exact ⟨x :: l, rfl, fun y hy => by rcases List.mem_cons.1 hy with rfl | hy; exact hx; exact hl y hy⟩

theorem sized_mem {H : Type} {P : Program} {ts : List TypeId} {ds : List (DataW H)} (h : (DataW.weightsEach P ts ds).all (· ≤ reachBytes) = true) (j : Nat) {t : TypeId} {d : DataW H} (ht : ts[j]? = some t) (hd : ds[j]? = some d) : ∀ m ∈ d.weights P t, m ≤ reachBytes := fun m hm => by
  have := List.all_eq_true.1 h m (DataW.weights_mem_each ht hd m hm)
  simpa using this
end Go.AI
