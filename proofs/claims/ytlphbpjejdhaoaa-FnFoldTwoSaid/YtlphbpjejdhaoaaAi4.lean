/- An abstract interpreter of the model's code, shown sound: rows of strings that the library sorts. No condition. -/
import Derived.Test.YtlphbpjejdhaoaaAi3
import Derived.Sort.EncStr
import Derived.Sort.Grow
import Derived.Lib.SlicesCompact
set_option linter.unusedSimpArgs false
set_option linter.unusedVariables false

/-
  The abstract interpreter, part Zl: rows of strings that the library sorts and compacts, in place.
-/
namespace Go.AI
open Go.RowKit Go.Sort Go.Proofs

section
variable {P : Program} {G : Gh} {σ : St} {a : Act} {w : World} {o : Oper}

/-- All elements of an owned slice of single cells are written anew, in place. -/
theorem R.refill (h : R G σ a w) {p : Pl} {k j : Nat} {rows : List (List D)} (hcell : cellIn (σ.rows p) (k, j) = some (.sl true 1 rows)) {new : List Value} (hl : new.length = rows.length)
    {b o n c : Nat} (hv : G.val p [(k, j)] = .slice (some ⟨b, o, Option.none⟩) n c) (hne : rows ≠ []) {w' : World} (hos : w'.os = w.os) (htape : w'.tape = w.tape) (hout : w'.output = w.output) (hsz : w.heap.size ≤ w'.heap.size)
    (hoth : ∀ b', b' ≠ b → b' < w.heap.size → w'.heap[b']? = w.heap[b']?) (hthere : w.there b o (c * 1) → w'.there b o (c * 1)) (hcells : ∀ i, i < rows.length → w'.cell? ⟨b, o + i, Option.none⟩ = new[i]?) :
    ∃ G', R G' ((σ.setTop p k j (.sl true 1 (new.map fun v => [D.lit v]))).bumpC p k j) a w' ∧ Kp [p] G w G' w' ∧ Fx σ ((σ.setTop p k j (.sl true 1 (new.map fun v => [D.lit v]))).bumpC p k j) G G' ∧ (∀ q kj, G'.val q [kj] = G.val q [kj]) := by
  classical
  have hloc : LocOwn G w p [(k, j)] 1 rows := h.loc p [(k, j)] (.sl true 1 rows) (by simp [St.cell, hcell, D.atU])
  rcases hloc with ⟨e, _⟩ | ⟨b', o', c', e1, e2, e3, e4, e5⟩
  · exact absurd e hne
  rw [hv] at e1
  simp only [Value.slice.injEq, Option.some.injEq, Addr.mk.injEq, and_true] at e1
  obtain ⟨⟨rfl, rfl⟩, rfl, rfl⟩ := e1
  have hbi : ¬ G.imm b := fun hb => by have := h.immOwn b hb; rw [e3] at this; cases this
  have hbl := h.ownLt b _ e3
  have h1 := h.setOwnC (p := p) (k := k) (j := j) (sz := 1) (rows0 := rows) (rows := new.map fun v => [D.lit v]) (b := b) (o := o) (c := c) (v := G.val p [(k, j)]) (g := fun i _ => new.getD i undef) (w' := w') (a' := a)
    hcell rfl rfl rfl (fun i' hi' => (SVrel_congr fun k' j' => by
      by_cases e : p = .s i' ∧ (k', j') = (k, j)
      · rw [if_pos e, ← e.1, e.2]
      · rw [if_neg e]).2 (h.slots i' hi')) (.inr e3) hbi (Nat.lt_of_lt_of_le hbl hsz) hsz (fun b' hb' hb2 => SameAt.of_heap (hoth b' hb' hb2))
    (by rw [hv]; simp [hl]) (by simp [hl]; exact e2) (hthere e4) ?_ ?_ ?_
  · refine ⟨_, h1, ⟨hos, htape, hout, hsz, fun b' hb' h0 => ?_, fun b' q π hq h0 => ?_, fun _ hb => hb, fun _ hb => .inl hb⟩, Fx.of (by rw [setTopC_n]) (fun _ _ => rfl) (fun i hi ds' hd => ?_) (fun i hi kj _ => ?_), fun q kj => ?_⟩
    · have hb : b' ≠ b := fun e => by rw [e, e3] at h0; cases h0
      exact ⟨hoth b' hb hb', by simp [Gh.setOwn, hb, h0]⟩
    · have hb : b' ≠ b := fun e => by rw [e, e3] at h0; simp only [Option.some.injEq, Prod.mk.injEq] at h0; exact hq (by simp [h0.1])
      refine ⟨hoth b' hb (h.ownLt b' _ h0), ?_⟩
      have hu : under p k j (q, π) = Option.none := under_none.2 fun e => absurd (by simp [e]) hq
      simp [Gh.setOwn, hb, h0, hu]
    · obtain ⟨ds, h2, _⟩ := setTop_vr (show (σ.setTop p k j _).vr i = some (false, ds') from hd)
      exact ⟨ds, h2⟩
    · simp only [Gh.setOwn]
      cases hu : under p k j (.v i, [kj]) with
      | none => rfl
      | some ρ =>
        obtain ⟨e1, e⟩ := under_some.1 hu
        simp only [List.cons.injEq] at e
        rw [← e.2]
        show G.val p [(k, j)] = G.val (.v i) [kj]
        rw [e.1, e1]
    · simp only [Gh.setOwn]
      cases hu : under p k j (q, [kj]) with
      | none => rfl
      | some ρ =>
        obtain ⟨rfl, e⟩ := under_some.1 hu
        simp only [List.cons.injEq] at e
        rw [← e.2]
        show G.val q [(k, j)] = G.val q [kj]
        rw [e.1]
  · intro i row hr
    simp only [List.getElem?_map, Option.map_eq_some_iff] at hr
    obtain ⟨v, hvv, rfl⟩ := hr
    refine ⟨rfl, fun l hl' => ?_⟩
    have hi := (List.getElem?_eq_some_iff.1 hvv).1
    have : l = 0 := by omega
    subst this
    rw [Nat.mul_one, Nat.add_zero, hcells i (by omega)]
    simp [List.getD, hvv]
  · intro i l x hx
    obtain ⟨row, hr, hx'⟩ := cellIn_some.1 hx
    simp only [List.getElem?_map, Option.map_eq_some_iff] at hr
    obtain ⟨v, hvv, rfl⟩ := hr
    left
    cases l with
    | succ l => simp at hx'
    | zero =>
      simp at hx'; subst hx'
      exact ⟨RO.lit.2 (by simp [List.getD, hvv]), rfl, rfl⟩
  · intro i es e hvr
    obtain ⟨g1, g2, g3⟩ := h.vars i es hvr
    have hnb : G.blk i ≠ b := fun e' => by rw [e', e3] at g1; simp at g1
    have hs : SameAt w w' (G.blk i) := SameAt.of_heap (hoth _ hnb (h.ownLt _ _ g1))
    refine ⟨fun l hl' => ?_, fun l hl' => ?_⟩
    · rw [(hs _).1, (hs _).2]; exact g2 l hl'
    · rw [(hs _).1, g3 l hl', ← e]
      by_cases e2 : (0, l) = (k, j)
      · rw [if_pos e2, e2]
      · rw [if_neg e2]

theorem R.refill0 (h : R G σ a w) {p : Pl} {k j : Nat} (hcell : cellIn (σ.rows p) (k, j) = some (.sl true 1 [])) :
    R G ((σ.setTop p k j (.sl true 1 [])).bumpC p k j) a w ∧ Kp [p] G w G w ∧ Fx σ ((σ.setTop p k j (.sl true 1 [])).bumpC p k j) G G := by
  refine ⟨?_, (Kp.refl G w).mono (fun _ h => by cases h), Fx.of (by rw [setTopC_n]) (fun _ _ => rfl) (fun i hi ds' hd => ?_) (fun i hi kj _ => rfl)⟩
  · refine h.topC hcell rfl rfl rfl rfl h.slots (fun _ _ _ => rfl) (fun _ _ _ _ hb => hb) (fun b _ _ _ _ _ => SameAt.refl w b) (fun _ hb => hb) (fun b _ => SameAt.refl w b) h.immOwn h.immLt h.ownLt (fun i ds hp hv => ?_) (fun ρ x hx => ?_)
    · obtain ⟨_, h2, h3⟩ := h.vars i ds hv
      rw [hp]
      exact ⟨h2, h3⟩
    · cases ρ with
      | cons ij ρ => simp [D.atU, cellIn] at hx
      | nil =>
        simp [D.atU] at hx; subst hx
        refine ⟨?_, fun e => absurd rfl e⟩
        have hl : LocOwn G w p [(k, j)] 1 [] := h.loc p [(k, j)] (.sl true 1 []) (by simp [St.cell, hcell, D.atU])
        exact hl
  · obtain ⟨ds, h2, _⟩ := setTop_vr (show (σ.setTop p k j _).vr i = some (false, ds') from hd)
    exact ⟨ds, h2⟩

def toB (s : ByteArray) : List UInt8 := s.data.toList
def ofB (l : List UInt8) : ByteArray := ⟨l.toArray⟩
theorem of_to (s : ByteArray) : ofB (toB s) = s := by cases s; simp [ofB, toB]
theorem to_of (l : List UInt8) : toB (ofB l) = l := by simp [ofB, toB]
theorem encStr_eq (l : List UInt8) : encStr l = .string (ofB l) := rfl
def strRow (s : ByteArray) : List D := [.lit (.string s)]
/-- Strings, sorted. -/
def sortB (ss : List ByteArray) : List ByteArray := ((ss.map toB).mergeSort fun x y => decide (x ≤ y)).map ofB
theorem sortB_len (ss : List ByteArray) : (sortB ss).length = ss.length := by simp [sortB, List.length_mergeSort]
def compB (ss : List ByteArray) : List ByteArray := (Lib.compact (ss.map toB)).map ofB

/-- What the library's sort does to a row of strings. -/
def SortC (P : Program) (g : FuncId) : Prop :=
  (∀ (blk off cap : Nat) (ss : List (List UInt8)) (w : World), Holds encStr w blk off ss.toArray → blk < w.heap.size → ss.length < 4611686018427387904 →
    Calls P g #[.slice (some ⟨blk, off, Option.none⟩) ss.length cap] w fun e w' => e = .returned (.tuple #[]) ∧ ∃ n os, w' = grow (putRow encStr (Sort.ahead w n) blk off (ss.mergeSort fun x y => decide (x ≤ y)).toArray) os) ∧
  ∀ (p : Option Addr) (cap : Nat) (w : World), Calls P g #[.slice p 0 cap] w fun e w' => e = .returned (.tuple #[]) ∧ w' = w

def CompC (P : Program) (g : FuncId) : Prop :=
  (∀ (blk off cap : Nat) (zs : List (List UInt8)) (w : World), Holds encStr w blk off zs.toArray → zs.length ≤ 9223372036854775807 → zs.length ≤ cap →
    Calls P g #[.slice (some ⟨blk, off, Option.none⟩) zs.length cap] w fun e w' => e = .returned (.slice (some ⟨blk, off, Option.none⟩) (Lib.compact zs).length cap) ∧
      ∃ q, w' = putRow encStr (Sort.ahead w q) blk off (Lib.compact zs ++ List.replicate (zs.length - (Lib.compact zs).length) []).toArray) ∧
  ∀ (p : Option Addr) (cap : Nat) (w : World), Calls P g #[.slice p 0 cap] w fun e w' => e = .returned (.slice p 0 cap) ∧ w' = w

theorem strRow_get {ss : List ByteArray} {i : Nat} {s : ByteArray} (h : ss[i]? = some s) : (ss.map strRow)[i]? = some [.lit (.string s)] := by simp [h, strRow]

/-- The value and the cells of an owned row of strings. -/
theorem strs_at (h : R G σ a w) {p : Pl} {k j : Nat} {ss : List ByteArray} (hcell : cellIn (σ.rows p) (k, j) = some (.sl true 1 (ss.map strRow))) :
    (ss = [] ∧ ∃ A c, G.val p [(k, j)] = .slice A 0 c) ∨ ∃ b o c, ss ≠ [] ∧ G.val p [(k, j)] = .slice (some ⟨b, o, Option.none⟩) ss.length c ∧ ss.length ≤ c ∧ b < w.heap.size ∧ w.there b o (c * 1) ∧ Holds encStr w b o (ss.map toB).toArray := by
  have hloc : LocOwn G w p [(k, j)] 1 (ss.map strRow) := h.loc p [(k, j)] (.sl true 1 (ss.map strRow)) (by simp [St.cell, hcell, D.atU])
  rcases hloc with ⟨e, hv⟩ | ⟨b, o, c, e1, e2, e3, e4, e5⟩
  · left
    have : ss = [] := by simpa using e
    exact ⟨this, _, _, hv⟩
  · by_cases h0 : ss = []
    · left; subst h0; exact ⟨rfl, _, c, e1⟩
    · right
      simp only [List.length_map] at e1 e2
      refine ⟨b, o, c, h0, e1, e2, h.ownLt b _ e3, e4, fun i hi => ?_⟩
      have hi' : i < ss.length := by simpa using hi
      obtain ⟨_, q2⟩ := e5 i [.lit (.string ss[i])] (strRow_get (List.getElem?_eq_getElem hi'))
      have q3 := q2 0 (by omega)
      rw [Nat.mul_one, Nat.add_zero] at q3
      have hc : σ.cell p ([(k, j)] ++ [(i, 0)]) = some (.lit (.string ss[i])) := by
        have : cellIn (ss.map strRow) (i, 0) = some (.lit (.string ss[i])) := by simp [cellIn, strRow, hi']
        show (match cellIn (σ.rows p) (k, j) with
          | some d => d.atU [(i, 0)]
          | Option.none => Option.none) = _
        rw [hcell]
        show (match cellIn (ss.map strRow) (i, 0) with
          | some d => d.atU []
          | Option.none => Option.none) = _
        rw [this]; rfl
      have hlit : G.val p ([(k, j)] ++ [(i, 0)]) = .string ss[i] := RO.lit.1 (h.loc p _ _ hc)
      refine ⟨?_, ?_⟩
      · rw [q3, hlit]
        have : (ss.map toB).toArray[i]! = toB ss[i] := by rw [getElem!_pos _ i hi]; simp
        rw [this, encStr_eq, of_to]
      · have := (e4 i (by omega)).2
        exact this

theorem putRow_there {w : World} {b o n : Nat} {d0 d : Array (List UInt8)} {q : Nat} (h0 : Holds encStr w b o d0) (hs : d.size = d0.size) (h : w.there b o n) : (putRow encStr (Sort.ahead w q) b o d).there b o n := by
  intro j hj
  refine ⟨?_, by rw [frozen?_putRow]; exact (h j hj).2⟩
  by_cases hc : j < d.size
  · rw [cell?_putRow encStr (Sort.ahead w q) b o d0 d (holds_ahead encStr w q b o d0 h0) hs j hc]; rfl
  · rw [cell?_putRow_other encStr (Sort.ahead w q) b o d ⟨b, o + j, Option.none⟩ (by right; right; show o + d.size ≤ o + j; omega)]
    exact (h j hj).1

theorem putRow_heap {w : World} {b o q b' : Nat} {d : Array (List UInt8)} (hb : b' ≠ b) : (putRow encStr (Sort.ahead w q) b o d).heap[b']? = w.heap[b']? := by
  show ((Sort.ahead w q).heap.modify b _)[b']? = _
  rw [Array.getElem?_modify, if_neg (Ne.symm hb)]
  rfl

theorem grow_cell {w : World} {os : Array Obj} {x : Addr} (h : x.block < w.heap.size) : (grow w os).cell? x = w.cell? x := by
  have : (grow w os).heap[x.block]? = w.heap[x.block]? := by simp [grow, Array.getElem?_append, h]
  simp [World.cell?, this]

theorem grow_frozen {w : World} {os : Array Obj} {x : Addr} (h : x.block < w.heap.size) : (grow w os).frozen? x = w.frozen? x := by
  have : (grow w os).heap[x.block]? = w.heap[x.block]? := by simp [grow, Array.getElem?_append, h]
  simp [World.frozen?, this]


variable {p : Pl} {k j d n : Nat} {f x : Operand} {ss : List ByteArray} {T : Pl → Prop} {K : St → Prop} {g : FuncId}

theorem strs_map (l : List (List UInt8)) : (l.map fun x => Value.string (ofB x)).map (fun v => [D.lit v]) = (l.map ofB).map strRow := by
  simp [strRow]

/-- A row of strings that is one's own (or lent), sorted by the library. -/
theorem call_sort (hrd : σ.rd f = .one (.clo g [])) (hx : σ.rd x = .one (.bor p [(k, j)] n Option.none)) (hst : σ.sb p (k, j) = n) (hcell : cellIn (σ.rows p) (k, j) = some (.sl true 1 (ss.map strRow))) (hd : d < σ.n) (hp : p ≠ .s d)
    (hT1 : T p) (hT2 : T (.s d)) (hg : enters P g = true) (hc : SortC P g) (hlen : ss.length < 4611686018427387904)
    (hK : K (((σ.setTop p k j (.sl true 1 ((sortB ss).map strRow))).bumpC p k j).put d .none)) : callA P σ f [x] (some d) T K := by
  refine .inr ⟨g, hrd, hg, fun G a w h => ?_⟩
  have hv := h.rd x
  rw [hx] at hv
  have hval : a.eval x = G.val p [(k, j)] := by
    have := (tells_one_iff.1 hv).1 (by simpa [St.stp] using hst) 1 (ss.map strRow) (by simp [St.cell, hcell, D.atU])
    rw [this]
    rcases strs_at h hcell with ⟨_, A, c, e⟩ | ⟨b, o, c, _, e, _⟩ <;> rw [e] <;> rfl
  have fin : ∀ (G' : Gh) (w' : World), R G' ((σ.setTop p k j (.sl true 1 ((sortB ss).map strRow))).bumpC p k j) a w' → Kp [p] G w G' w' → Fx σ ((σ.setTop p k j (.sl true 1 ((sortB ss).map strRow))).bumpC p k j) G G' →
      ∃ v σ' G' t, Ending.returned (.tuple #[]) = .returned v ∧ K σ' ∧ (∀ p ∈ t, T p) ∧ R G' σ' (a.put (some d) v) w' ∧ Kp t G w G' w' ∧ Fx σ σ' G G' := by
    intro G' w' h' hk hf
    obtain ⟨G2, q1, q2, _, _, q5⟩ := h'.putK (d := d) (by rw [setTopC_n]; exact hd) (sv := .none) (v := .tuple #[]) ⟨fun _ _ => undef, trivial, fun k j x hx => by simp [SV.rows, cellIn] at hx⟩
    exact ⟨_, _, G2, [p] ++ [.s d], rfl, hK, fun q hq => by simp at hq; rcases hq with rfl | rfl; exact hT1; exact hT2, q1, hk.trans q2, hf.trans q5⟩
  show Calls P g #[a.eval x] w _
  rw [hval]
  rcases strs_at h hcell with ⟨rfl, A, c, e⟩ | ⟨b, o, c, hne, e, hcap, hbl, hth, hH⟩
  · rw [e]
    refine Calls.mono (hc.2 A c w) fun ed w' he => ?_
    obtain ⟨rfl, rfl⟩ := he
    have hs : sortB [] = [] := by simp [sortB]
    have h0 := h.refill0 (p := p) (k := k) (j := j) (by simpa using hcell)
    rw [hs] at fin
    exact fin _ _ h0.1 h0.2.1 h0.2.2
  · rw [e, show ss.length = (ss.map toB).length by simp]
    refine Calls.mono (hc.1 b o c (ss.map toB) w hH hbl (by simpa using hlen)) fun ed w' he => ?_
    obtain ⟨rfl, q, os, rfl⟩ := he
    have hsz : ((ss.map toB).mergeSort fun x y => decide (x ≤ y)).toArray.size = (ss.map toB).toArray.size := by simp [List.length_mergeSort]
    have hb : ∀ y : Nat, b < (putRow encStr (Sort.ahead w q) b o ((ss.map toB).mergeSort fun x y => decide (x ≤ y)).toArray).heap.size := fun _ => by simpa using hbl
    obtain ⟨G', r1, r2, r3, _⟩ := h.refill hcell (new := ((ss.map toB).mergeSort fun x y => decide (x ≤ y)).map fun x => Value.string (ofB x)) (by simp [List.length_mergeSort]) e (by simpa using hne) (w' := grow (putRow encStr (Sort.ahead w q) b o ((ss.map toB).mergeSort fun x y => decide (x ≤ y)).toArray) os)
      rfl rfl rfl (by simp) (fun b' hb' hlt => by
        have : (grow (putRow encStr (Sort.ahead w q) b o ((ss.map toB).mergeSort fun x y => decide (x ≤ y)).toArray) os).heap[b']? = (putRow encStr (Sort.ahead w q) b o ((ss.map toB).mergeSort fun x y => decide (x ≤ y)).toArray).heap[b']? := by
          simp [grow, Array.getElem?_append]; omega
        rw [this]; exact putRow_heap hb') (fun hth => fun l hl => by
        rw [grow_cell (hb 0), grow_frozen (hb 0)]
        exact putRow_there hH hsz hth l hl) (fun i hi => by
        have hi' : i < ((ss.map toB).mergeSort fun x y => decide (x ≤ y)).toArray.size := by rw [hsz]; simpa using hi
        rw [grow_cell (hb 0), cell?_putRow encStr (Sort.ahead w q) b o (ss.map toB).toArray _ (holds_ahead encStr w q b o _ hH) hsz i hi', getElem!_pos _ i hi', encStr_eq]
        have hi2 : i < ((ss.map toB).mergeSort fun x y => decide (x ≤ y)).length := by simpa using hi'
        rw [List.getElem?_map, List.getElem?_eq_getElem hi2]; rfl)
    rw [strs_map] at r1 r3
    exact fin _ _ r1 r2 r3

/-- The same row, its runs of equal elements struck: what comes back is its beginning. -/
theorem call_compact (hrd : σ.rd f = .one (.clo g [])) (hx : σ.rd x = .one (.bor p [(k, j)] n Option.none)) (hst : σ.sb p (k, j) = n) (hcell : cellIn (σ.rows p) (k, j) = some (.sl true 1 (ss.map strRow))) (hd : d < σ.n) (hp : p ≠ .s d)
    (hT1 : T p) (hT2 : T (.s d)) (hg : enters P g = true) (hc : CompC P g) (hlen : ss.length < 4611686018427387904) (hle : (compB ss).length ≤ ss.length)
    (hK : K (((σ.setTop p k j (.sl true 1 ((compB ss ++ List.replicate (ss.length - (compB ss).length) (⟨#[]⟩ : ByteArray)).map strRow))).bumpC p k j).put d (.one (.bor p [(k, j)] n (some (0, (compB ss).length)))))) : callA P σ f [x] (some d) T K := by
  have hcl : (compB ss).length = (Lib.compact (ss.map toB)).length := by simp [compB]
  refine .inr ⟨g, hrd, hg, fun G a w h => ?_⟩
  have hv := h.rd x
  rw [hx] at hv
  have hval : a.eval x = G.val p [(k, j)] := by
    have := (tells_one_iff.1 hv).1 (by simpa [St.stp] using hst) 1 (ss.map strRow) (by simp [St.cell, hcell, D.atU])
    rw [this]
    rcases strs_at h hcell with ⟨_, A, c, e⟩ | ⟨b, o, c, _, e, _⟩ <;> rw [e] <;> rfl
  have hnt : n < σ.tick := by rw [← hst]; exact h.stB _ _
  have fin : ∀ (G' : Gh) (w' : World) (v : Value), R G' ((σ.setTop p k j (.sl true 1 ((compB ss ++ List.replicate (ss.length - (compB ss).length) (⟨#[]⟩ : ByteArray)).map strRow))).bumpC p k j) a w' → Kp [p] G w G' w' →
      Fx σ ((σ.setTop p k j (.sl true 1 ((compB ss ++ List.replicate (ss.length - (compB ss).length) (⟨#[]⟩ : ByteArray)).map strRow))).bumpC p k j) G G' → v = rgval (some (0, (compB ss).length)) 1 (G'.val p [(k, j)]) →
      ∃ v' σ' G' t, Ending.returned v = .returned v' ∧ K σ' ∧ (∀ p ∈ t, T p) ∧ R G' σ' (a.put (some d) v') w' ∧ Kp t G w G' w' ∧ Fx σ σ' G G' := by
    intro G' w' v h' hk hf hvv
    have hcs : (cellIn (σ.rows p) (k, j)).isSome = true := by rw [hcell]; rfl
    obtain ⟨G2, q1, q2, _, _, q5⟩ := h'.putK (d := d) (by rw [setTopC_n]; exact hd) (sv := .one (.bor p [(k, j)] n (some (0, (compB ss).length)))) (v := v) (tells_one (fun _ sz rows hcc => by
      rw [bumpC_cell, setTop_cell_same hcs] at hcc
      simp only [D.atU, Option.some.injEq, D.sl.injEq, true_and] at hcc
      rw [← hcc.1]; exact hvv) (by rw [setTopC_tick]; show n < σ.tick + 1; omega))
    exact ⟨_, _, G2, [p] ++ [.s d], rfl, hK, fun q hq => by simp at hq; rcases hq with rfl | rfl; exact hT1; exact hT2, q1, hk.trans q2, hf.trans q5⟩
  show Calls P g #[a.eval x] w _
  rw [hval]
  rcases strs_at h hcell with ⟨rfl, A, c, e⟩ | ⟨b, o, c, hne, e, hcap, hbl, hth, hH⟩
  · rw [e]
    refine Calls.mono (hc.2 A c w) fun ed w' he => ?_
    obtain ⟨rfl, rfl⟩ := he
    have hs : compB [] = [] := List.length_eq_zero_iff.1 (by simpa using hle)
    have h0 := h.refill0 (p := p) (k := k) (j := j) (by simpa using hcell)
    rw [hs] at fin
    refine fin _ _ _ h0.1 h0.2.1 h0.2.2 ?_
    rw [e]
    simp only [rgval, Nat.zero_mul, List.length_nil, Nat.sub_zero]
    have hadd0 : ∀ A : Addr, A.add 0 = A := fun A => by cases A; rfl
    cases A <;> simp [hadd0]
  · rw [e, show ss.length = (ss.map toB).length by simp]
    refine Calls.mono (hc.1 b o c (ss.map toB) w hH (by simp; omega) (by simpa using hcap)) fun ed w' he => ?_
    obtain ⟨rfl, q, rfl⟩ := he
    have hle' : (Lib.compact (ss.map toB)).length ≤ (ss.map toB).length := by rw [← hcl]; simpa using hle
    generalize hnew : Lib.compact (ss.map toB) ++ List.replicate ((ss.map toB).length - (Lib.compact (ss.map toB)).length) [] = new at *
    have hnl : new.length = (ss.map toB).length := by rw [← hnew]; simp; simp at hle'; omega
    have hsz : new.toArray.size = (ss.map toB).toArray.size := by simpa using hnl
    obtain ⟨G', r1, r2, r3, r4⟩ := h.refill hcell (new := new.map fun x => Value.string (ofB x)) (by simpa using hnl) e (by simpa using hne) (w' := putRow encStr (Sort.ahead w q) b o new.toArray)
      rfl rfl rfl (by simp) (fun b' hb' hlt => putRow_heap hb') (fun hth => putRow_there hH hsz hth) (fun i hi => by
        have hi' : i < new.toArray.size := by rw [hsz]; simpa using hi
        rw [cell?_putRow encStr (Sort.ahead w q) b o (ss.map toB).toArray _ (holds_ahead encStr w q b o _ hH) hsz i hi', getElem!_pos _ i hi', encStr_eq]
        have hi2 : i < new.length := by simpa using hi'
        rw [List.getElem?_map, List.getElem?_eq_getElem hi2]; rfl)
    have hmap : new.map ofB = compB ss ++ List.replicate (ss.length - (compB ss).length) ⟨#[]⟩ := by
      rw [← hnew, compB]
      simp [ofB]
    rw [strs_map, hmap] at r1 r3
    refine fin _ _ _ r1 r2 r3 ?_
    rw [r4, e, hcl]
    have hadd0 : (⟨b, o, Option.none⟩ : Addr).add 0 = ⟨b, o, Option.none⟩ := by rw [Addr.add_mid]; rfl
    simp only [rgval, Nat.zero_mul, Nat.sub_zero, Option.map_some, hadd0]
    split <;> rfl

theorem nil_val (h : R G σ a w) (hx : σ.rd x = .one .nil) : a.eval x = .slice Option.none 0 0 := by
  have hv := h.rd x
  rw [hx] at hv
  obtain ⟨f, hf1, hf2⟩ := (show RO G.imm w .nil (a.eval x) from (tells_one_iff.1 hv).1)
  rw [← hf1]; exact hf2 [] .nil rfl

theorem call_sort_nil (hrd : σ.rd f = .one (.clo g [])) (hx : σ.rd x = .one .nil) (hd : d < σ.n) (hT2 : T (.s d)) (hg : enters P g = true) (hc : SortC P g) (hK : K (σ.put d .none)) : callA P σ f [x] (some d) T K := by
  refine .inr ⟨g, hrd, hg, fun G a w h => ?_⟩
  show Calls P g #[a.eval x] w _
  rw [nil_val h hx]
  refine Calls.mono (hc.2 Option.none 0 w) fun ed w' he => ?_
  obtain ⟨rfl, rfl⟩ := he
  obtain ⟨G2, q1, q2, _, _, q5⟩ := h.putK (d := d) hd (sv := .none) (v := .tuple #[]) ⟨fun _ _ => undef, trivial, fun k j x hx => by simp [SV.rows, cellIn] at hx⟩
  exact ⟨_, _, G2, [.s d], rfl, hK, fun q hq => by simp at hq; subst hq; exact hT2, q1, q2, q5⟩

theorem call_compact_nil (hrd : σ.rd f = .one (.clo g [])) (hx : σ.rd x = .one .nil) (hd : d < σ.n) (hT2 : T (.s d)) (hg : enters P g = true) (hc : CompC P g) (hK : K (σ.put d (.one .nil))) : callA P σ f [x] (some d) T K := by
  refine .inr ⟨g, hrd, hg, fun G a w h => ?_⟩
  show Calls P g #[a.eval x] w _
  have hv := h.rd x
  rw [hx] at hv
  have hval := nil_val h hx
  rw [hval]
  refine Calls.mono (hc.2 Option.none 0 w) fun ed w' he => ?_
  obtain ⟨rfl, rfl⟩ := he
  rw [hval] at hv
  obtain ⟨G2, q1, q2, _, _, q5⟩ := h.putK (d := d) hd hv
  exact ⟨_, _, G2, [.s d], rfl, hK, fun q hq => by simp at hq; subst hq; exact hT2, q1, q2, q5⟩

end
end Go.AI

/-
  The abstract interpreter, part Zm: a call that is lent one slot's own slice.
-/
namespace Go.AI
open Go.RowKit

/-- The state behind a call that was lent what one slot holds. -/
def St.resS (σ : St) (d : Nat) (sv : SV) (k : Nat) (x : D) : St where
  n := σ.n
  sl i := if i = d then sv.map D.extD else if i = k then .one x.extD else σ.sl i
  vr := σ.vr
  sa := σ.sa
  sb q ij := if q = .s d ∨ q = .s k then σ.tick else σ.sb q ij
  sc q ij := if q = .s d ∨ q = .s k then σ.tick else σ.sc q ij
  tick := σ.tick + 1

section
variable {P : Program} {σ : St} {d i k j m sz : Nat} {b : Bool} {x : D} {sv : SV} {p q : Pl} {ij : Nat × Nat}

theorem resS_n : (σ.resS d sv k x).n = σ.n := rfl
theorem resS_sl : (σ.resS d sv k x).sl i = if i = d then sv.map D.extD else if i = k then .one x.extD else σ.sl i := rfl
theorem resS_vr : (σ.resS d sv k x).vr i = σ.vr i := rfl
theorem resS_sa : (σ.resS d sv k x).sa i = σ.sa i := rfl
theorem resS_sb : (σ.resS d sv k x).sb p ij = if p = .s d ∨ p = .s k then σ.tick else σ.sb p ij := rfl
theorem resS_sc : (σ.resS d sv k x).sc p ij = if p = .s d ∨ p = .s k then σ.tick else σ.sc p ij := rfl
theorem resS_tick : (σ.resS d sv k x).tick = σ.tick + 1 := rfl

theorem after_oneS {E' : Nat → Option (Bool × List D)} {x0 : D} (hv : σ.sl k = .one x0) (hE : E' vbase = some (false, [x])) : σ.after [.s k] (some d) sv E' = σ.resS d sv k x := by
  simp only [St.after, St.resS, idx]
  congr 1
  · funext i
    by_cases e : i = d
    · simp [e]
    · by_cases e2 : i = k
      · subst e2; simp [e, Ne.symm e, hv, hE, afterSl]
      · have : ¬ (Pl.s k = Pl.s i) := fun h => e2 (by simpa using h.symm)
        simp [e, Ne.symm e, this, e2]
  · funext q ij
    by_cases e : q = .s d
    · subst e; simp [isD_some]
    · by_cases e2 : q = .s k
      · subst e2; simp [isD_some]
      · simp [isD_some, e, e2, Ne.symm e2]
  · funext q ij
    by_cases e : q = .s d
    · subst e; simp [isD_some]
    · by_cases e2 : q = .s k
      · subst e2; simp [isD_some]
      · simp [isD_some, e, e2, Ne.symm e2]

/-- A call that is lent what one slot holds, and reads whatever else it is shown. -/
theorem call_lendS (k : Nat) {f : Operand} {xs : List Operand} {T : Pl → Prop} {K : St → Prop} {g : FuncId} {caps : List D} {args : List SV} {Q : SV → (Nat → Option (Bool × List D)) → Prop} {x0 xe : D}
    (hrd : σ.rd f = .one (.clo g caps)) (hargs : (xs.map σ.rd ++ caps.map fun c => SV.one c.ro).map (argSV σ [.s k] true) = args) (hv : σ.sl k = .one x0) (he : x0.extD = xe) (hd : d < σ.n) (hkd : k ≠ d) (hT : T (.s d)) (hT2 : T (.s k)) (hg : enters P g = true)
    (hc : ∀ E, E vbase = some (false, [xe]) → AC P g args E Q) (hK : ∀ sv E', Q sv E' → sv.Fresh ∧ ∃ x, E' vbase = some (false, [x]) ∧ x.Fresh ∧ K (σ.resS d sv k x)) : callA P σ f xs (some d) T K := by
  subst he
  refine .inl ⟨g, caps, [.s k], true, Q, hrd, by simp, fun q hq => ?_, fun i hi => by cases hi; exact hd, fun q hq => ?_, fun i hi => by cases hi; exact hT, ⟨hg, by rw [hargs]; exact hc _ (by simp [St.ext, hv])⟩, fun sv E' hQ => ?_⟩
  · simp only [List.mem_singleton] at hq; subst hq; simp [isD_some, hkd]
  · simp only [List.mem_singleton] at hq; subst hq; exact hT2
  · obtain ⟨h1, x, h2, h3, h4⟩ := hK sv E' hQ
    refine ⟨fun _ => ⟨h1, fun e b' ds' he1 he2 hE => ?_⟩, ?_⟩
    · simp at he2
      have : e = vbase := by omega
      subst this
      rw [h2] at hE
      simp only [Option.some.injEq, Prod.mk.injEq] at hE
      obtain ⟨rfl, rfl⟩ := hE
      intro y hy
      simp at hy; subst hy; exact h3
    · rw [after_oneS hv h2]; exact h4

end
attribute [go_sem] Nat.zero_le resS_n resS_sl resS_vr resS_sa resS_sb resS_sc resS_tick
end Go.AI
