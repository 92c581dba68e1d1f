/- An abstract interpreter of the model's code, shown sound: what one operation does. No condition. -/
import Derived.Test.YtlphbpjejdhaoaaAi1
import Derived.Laws.StructEq
import Derived.ChangeKeysEq
import Derived.Lib.MinMax
import Derived.Laws.Tables
import Derived.Laws.MakeOwn
import Derived.Great.BuildSlice
import Derived.Laws.IdiomStrings
set_option linter.unusedSimpArgs false
set_option linter.unusedVariables false

/-
  The abstract interpreter, part L: the other operations that only read.
-/
namespace Go.AI
open Go.RowKit

def pickS (σ : St) (c x y : Operand) : Option SV :=
  match σ.rd c with
  | .one (.lit (.bool t)) => some (if t = true then σ.rd x else σ.rd y)
  | _ => Option.none

def nilCheckS (σ : St) (x : Operand) : Option SV :=
  match σ.rd x with
  | .one (.addr p π i j n) => if σ.okAddr p π i j n = true then some (.one (.addr p π i j n)) else Option.none
  | .one (.raddr row) => some (.one (.raddr row))
  | _ => Option.none

def fieldS (P : Program) (σ : St) (t : TypeId) (x : Operand) (f : Nat) : Option SV :=
  match tfld P t f, σ.rd x with
  | some (off, ft), .agg ds => match isRowT P ft, tsz P ft with
    | some true, some n => if off + n ≤ ds.length then some (.agg ((ds.drop off).take n)) else Option.none
    | some false, some _ => match ds[off]? with
      | some d => some (.one d)
      | Option.none => Option.none
    | _, _ => Option.none
  | _, _ => Option.none

def extractS (σ : St) (x : Operand) (k : Nat) : Option SV :=
  match σ.rd x with
  | .tup cs => match cs[k]? with
    | some (true, ds) => some (.agg ds)
    | some (false, [d]) => some (.one d)
    | _ => Option.none
  | _ => Option.none

def byteAt (s : ByteArray) (i : Nat) : UInt8 := s.data.getD i 0

def indexS (P : Program) (σ : St) (t : TypeId) (x ix : Operand) : Option SV :=
  match P.underlying t, σ.rd x, σ.rd ix with
  | some .string, .one (.lit (.string s)), .one (.lit (.int _ i)) => if 0 ≤ i ∧ i.toNat < s.size then some (.one (.lit (.int .u8 (byteAt s i.toNat).toNat))) else Option.none
  | _, _, _ => Option.none

def bytesRows : List (List D) → Option (List UInt8)
  | [] => some []
  | [.lit (.int .u8 n)] :: r => (bytesRows r).map (UInt8.ofNat n.toNat :: ·)
  | _ => Option.none

def kindOf (P : Program) (t : TypeId) : Option IntKind := match P.underlying t with
  | some (.int k) => some k
  | _ => Option.none

def convertS (P : Program) (σ : St) (s t : TypeId) (x : Operand) : Option SV :=
  match kindOf P s, kindOf P t, σ.rd x with
  | some _, some k, .one (.lit (.int _ n)) => some (.one (.lit (.int k (k.wrap n))))
  | _, _, _ => Option.none

def binOpS (P : Program) (σ : St) (eqS : TypeId → List Value → List Value → Option Bool) (op : BinOp) (t : TypeId) (x y : Operand) : Option SV :=
  match σ.rd x, σ.rd y with
  | .one (.lit u), .one (.lit v) => match binV (isBoolT P t) op u v with
    | some r => some (.one (.lit r))
    | Option.none => Option.none
  | _, _ => Option.none

def unOpS (σ : St) (op : UnOp) (x : Operand) : Option SV :=
  match σ.rd x with
  | .one (.lit u) => match unV op u with
    | some r => some (.one (.lit r))
    | Option.none => Option.none
  | _ => Option.none

def isSliceT (P : Program) (t : TypeId) : Bool := match P.underlying t with
  | some (.slice _) => true
  | _ => false
def isStringT (P : Program) (t : TypeId) : Bool := match P.underlying t with
  | some .string => true
  | _ => false

def lenS (P : Program) (σ : St) (t : TypeId) (x : Operand) : Option SV :=
  match σ.rd x with
  | .one (.lit (.string s)) => if isStringT P t = true then some (.one (.lit (.int .i64 s.size))) else Option.none
  | .one d => if isSliceT P t = true then match σ.rowsOf d with
      | some rows => some (.one (.lit (.int .i64 rows.length)))
      | Option.none => Option.none
    else Option.none
  | _ => Option.none

section
variable {P : Program} {G : Gh} {σ : St} {a : Act} {w : World} {o : Oper}

theorem move_gives (h : R G σ a w) {x : Operand} (ho : o.op = .move x ∨ o.op = .assign x) : Gives P G σ a w o (σ.rd x) := by
  refine gives_const (v := a.eval x) (fun w' => ?_) (h.rd x)
  rcases ho with ho | ho <;> simp [execOp, ho, pure, Sem.run]

theorem pick_gives (h : R G σ a w) {c x y : Operand} (ho : o.op = .pick c x y) {sv : SV} (hs : pickS σ c x y = some sv) : Gives P G σ a w o sv := by
  unfold pickS at hs
  have hc := h.rd c
  split at hs
  · next t hrd =>
    rw [hrd] at hc
    have hv := RO.lit.1 (show RO G.imm w _ _ from (tells_one_iff.1 hc).1)
    simp only [Option.some.injEq] at hs; subst hs
    refine gives_const (v := if t = true then a.eval x else a.eval y) (fun w' => ?_) ?_
    · simp only [execOp, ho, hv]
      cases t <;> simp [asBool]
    · cases t
      · simpa using h.rd y
      · simpa using h.rd x
  · cases hs

theorem nilCheck_gives (h : R G σ a w) {x : Operand} (ho : o.op = .nilCheck x) {sv : SV} (hs : nilCheckS σ x = some sv) : Gives P G σ a w o sv := by
  unfold nilCheckS at hs
  have hx := h.rd x
  split at hs
  · next p π i j n hrd =>
    rw [hrd] at hx
    split at hs
    · next hk =>
      simp only [Option.some.injEq] at hs; subst hs
      obtain ⟨row, b, o', h1, h2, h3, _⟩ := h.okAddr hk (tells_one_iff.1 hx).1
      rw [h3] at hx
      exact gives_const (fun w' => by simp [execOp, ho, h3]) hx
    · cases hs
  · next row hrd =>
    rw [hrd] at hx
    simp only [Option.some.injEq] at hs; subst hs
    obtain ⟨b, o', h3, _⟩ := raddr_iff.1 (show RO G.imm w (.raddr row) (a.eval x) from (tells_one_iff.1 hx).1)
    rw [h3] at hx
    exact gives_const (fun w' => by simp [execOp, ho, h3]) hx
  · cases hs

theorem field_gives (h : R G σ a w) {t : TypeId} {x : Operand} {f : Nat} (ho : o.op = .field t x f) {sv : SV} (hs : fieldS P σ t x f = some sv) : Gives P G σ a w o sv := by
  unfold fieldS at hs
  have hx := h.rd x
  split at hs
  · next off ft ds hf hrd =>
    rw [hrd] at hx
    obtain ⟨cs, hv, hl, hcs⟩ := tells_agg_iff.1 hx
    have hrun : ∀ (v : Value) (w' : World), (part ft cs.toArray off).run P w' = .ok v w' → (Instr.field t (.agg cs.toArray) f).run P w' = .ok v w' := by
      intro v w' hp
      unfold tfld at hf
      split at hf
      · next fs hu =>
        cases hff : fs[f]? with
        | none => rw [hff] at hf; cases hf
        | some y =>
          rw [hff] at hf; simp at hf
          obtain ⟨rfl, rfl⟩ := hf
          simp [Instr.field, run_underlying hu, hff, asAgg, hp]
      · cases hf
    split at hs
    · next n hrow hsz =>
      split at hs
      · next hle =>
        simp only [Option.some.injEq] at hs; subst hs
        refine gives_const (v := .agg ((cs.drop off).take n).toArray) (fun w' => ?_) (tells_agg_iff.2 ⟨_, rfl, by simp; omega, fun j y hy => ?_⟩)
        · simp only [execOp, ho, hv]
          refine run_v (hrun _ w' ?_)
          simp only [tsz, Option.map_eq_some_iff] at hsz
          obtain ⟨inf, hinf, rfl⟩ := hsz
          simp only [part, Sem.run_bind, isRowT_run hrow, Result.andThen_ok, if_true, sizeOf, typeInfo]
          simp [hinf]
        · rw [List.getElem?_take] at hy
          split at hy
          · next hj =>
            rw [List.getElem?_drop] at hy
            obtain ⟨u, h1, h2⟩ := hcs _ y hy
            exact ⟨u, by rw [List.getElem?_take, if_pos hj, List.getElem?_drop]; exact h1, h2⟩
          · cases hy
      · cases hs
    · next hrow _ =>
      split at hs
      · next d hd =>
        simp only [Option.some.injEq] at hs; subst hs
        obtain ⟨u, h1, h2⟩ := hcs off d hd
        refine gives_const (v := u) (fun w' => ?_) (tells_one h2.1 h2.2)
        simp only [execOp, ho, hv]
        refine run_v (hrun _ w' ?_)
        simp [part, isRowT_run hrow, h1]
      · cases hs
    · cases hs
  · cases hs

theorem tvals_get {f : Nat → Nat → Value} : ∀ (cs : List (Bool × List D)) (k i : Nat) (b : Bool) (ds : List D), cs[i]? = some (b, ds) → (tvals f k cs)[i]? = some (cval b (vals f (k + i) ds.length))
  | [], _, _, _, _, h => by simp at h
  | (b, ds) :: r, k, 0, b', ds', h => by simp at h; obtain ⟨rfl, rfl⟩ := h; simp [tvals]
  | (b, ds) :: r, k, i + 1, b', ds', h => by
    simp only [List.getElem?_cons_succ] at h
    simp only [tvals, List.getElem?_cons_succ]
    rw [tvals_get r (k + 1) i b' ds' h, show k + 1 + i = k + (i + 1) by omega]

theorem extract_gives (h : R G σ a w) {x : Operand} {k : Nat} (ho : o.op = .extract x k) {sv : SV} (hs : extractS σ x k = some sv) : Gives P G σ a w o sv := by
  unfold extractS at hs
  have hx := h.rd x
  split at hs
  · next cs hrd =>
    rw [hrd] at hx
    obtain ⟨f, hv, hcells⟩ := hx
    have hv' : a.eval x = .tuple (tvals f 0 cs).toArray := hv
    have hrun : ∀ v, (tvals f 0 cs)[k]? = some v → ∀ w', (execOp a.eval o).run P w' = .ok (.value v) w' := fun v hk w' => by
      simp only [execOp, ho, hv']
      refine run_v ?_
      simp [Instr.extract, hk]
    split at hs
    · next ds hk =>
      simp only [Option.some.injEq] at hs; subst hs
      refine gives_const (hrun _ (tvals_get cs 0 k true ds hk)) ⟨fun _ j => f k j, ?_, fun k' j y hy => ?_⟩
      · show cval true (vals f (0 + k) ds.length) = _
        simp [cval, vals]
      · obtain ⟨row, h1, h2⟩ := cellIn_some.1 hy
        cases k' with
        | succ k' => simp [SV.rows] at h1
        | zero =>
          simp [SV.rows] at h1; subst h1
          exact hcells k j y (cellIn_some.2 ⟨ds, by simp [SV.rows, hk], h2⟩)
    · next d hk =>
      simp only [Option.some.injEq] at hs; subst hs
      refine gives_const (hrun _ (tvals_get cs 0 k false [d] hk)) (tells_one_iff.2 ?_)
      have : cval false (vals f (0 + k) [d].length) = f k 0 := by simp [cval, vals, List.range_succ]
      rw [this]
      exact hcells k 0 d (cellIn_some.2 ⟨[d], by simp [SV.rows, hk], rfl⟩)
    · cases hs
  · cases hs

theorem litOf (h : R G σ a w) {x : Operand} {u : Value} (hr : σ.rd x = .one (.lit u)) : a.eval x = u := by
  have hx := h.rd x
  rw [hr] at hx
  exact RO.lit.1 (show RO G.imm w _ _ from (tells_one_iff.1 hx).1)

theorem tells_lit {v : Value} : Tells G w σ (.one (.lit v)) v := tells_one (RO.lit.2 rfl) trivial

theorem index_gives (h : R G σ a w) {t : TypeId} {x ix : Operand} (ho : o.op = .index t x ix) {sv : SV} (hs : indexS P σ t x ix = some sv) : Gives P G σ a w o sv := by
  unfold indexS at hs
  split at hs
  · next s k i hu hx hi =>
    have h1 := litOf h hx
    have h2 := litOf h hi
    split at hs
    · next hc =>
      simp only [Option.some.injEq] at hs; subst hs
      refine gives_const (fun w' => ?_) tells_lit
      simp only [execOp, ho, h1, h2]
      refine run_v ?_
      have hb : s[i.toNat]? = some (byteAt s i.toNat) := by
        have : i.toNat < s.data.size := hc.2
        simp [byteAt, getElem?_def, hc.2, Array.getD, this]
        rfl
      simp [Instr.index, asIntOf, run_underlying hu, hc.1, hb]
    · cases hs
  · cases hs

theorem kindOf_spec {t : TypeId} {k : IntKind} (h : kindOf P t = some k) : P.underlying t = some (.int k) := by
  unfold kindOf at h
  split at h
  · next k' hu => simp at h; subst h; exact hu
  · cases h

theorem convert_gives (h : R G σ a w) {s t : TypeId} {x : Operand} (ho : o.op = .convert s t x) {sv : SV} (hs : convertS P σ s t x = some sv) : Gives P G σ a w o sv := by
  unfold convertS at hs
  split at hs
  · next k0 k k1 n h1 h2 hx =>
    have hv := litOf h hx
    simp only [Option.some.injEq] at hs; subst hs
    refine gives_const (fun w' => ?_) tells_lit
    simp only [execOp, ho, hv]
    refine run_v ?_
    simp [convert, run_underlying (kindOf_spec h1), run_underlying (kindOf_spec h2), Conv.intToInt, pure, Sem.run]
  · cases hs

theorem binOp_gives0 (h : R G σ a w) {eqS : TypeId → List Value → List Value → Option Bool} {op : BinOp} {t u : TypeId} {x y : Operand} (ho : o.op = .binOp op t x y u) {sv : SV} (hs : binOpS P σ eqS op t x y = some sv) : Gives0 P G σ a w o sv := by
  unfold binOpS at hs
  split at hs
  · next u' v' hx hy =>
    split at hs
    · next r hr =>
      simp only [Option.some.injEq] at hs; subst hs
      have h1 := litOf h hx
      have h2 := litOf h hy
      refine give0 (fun w' => ?_) tells_lit
      simp only [execOp, ho, h1, h2]
      exact run_v (run_binV hr w')
    · cases hs
  · cases hs

theorem binOp_gives (h : R G σ a w) {eqS : TypeId → List Value → List Value → Option Bool} {op : BinOp} {t u : TypeId} {x y : Operand} (ho : o.op = .binOp op t x y u) {sv : SV} (hs : binOpS P σ eqS op t x y = some sv) : Gives P G σ a w o sv := (binOp_gives0 h ho hs).gives

theorem unOp_gives (h : R G σ a w) {op : UnOp} {t : TypeId} {x : Operand} (ho : o.op = .unOp op t x) {sv : SV} (hs : unOpS σ op x = some sv) : Gives P G σ a w o sv := by
  unfold unOpS at hs
  split at hs
  · next u' hx =>
    split at hs
    · next r hr =>
      simp only [Option.some.injEq] at hs; subst hs
      have h1 := litOf h hx
      refine gives_const (fun w' => ?_) tells_lit
      simp only [execOp, ho, h1]
      refine run_v ?_
      unfold unV at hr
      split at hr
      · split at hr
        · simp only [Option.some.injEq] at hr; subst hr; simp [Op.unary, Op.intArith, pure, Sem.run]
        · cases hr
      · split at hr
        · simp only [Option.some.injEq] at hr; subst hr; simp [Op.unary, pure, Sem.run]
        · cases hr
      · cases hr
    · cases hs
  · cases hs

/-- A slice that is read: its length. -/
theorem rowsOf_val (h : R G σ a w) {d : D} {v : Value} (hv : LocV G w σ v d) {rows : List (List D)} (hr : σ.rowsOf d = some rows) : ∃ A c, v = .slice A rows.length c ∧ rows.length ≤ c := by
  cases d with
  | sl u sz r =>
    simp [St.rowsOf] at hr; subst hr
    cases u with
    | true => exact hv.elim
    | false => obtain ⟨A, c, h1, h2, _⟩ := roslice (show RO G.imm w _ _ from hv); exact ⟨A, c, h1, h2⟩
  | nil =>
    simp [St.rowsOf] at hr; subst hr
    obtain ⟨f, h1, h2⟩ := (show RO G.imm w .nil v from hv)
    have h3 : f [] = Value.slice Option.none 0 0 := h2 [] .nil rfl
    exact ⟨Option.none, 0, by rw [← h1, h3]; rfl, by simp⟩
  | bor p π n rg =>
    simp only [St.rowsOf] at hr
    split at hr
    · next hst =>
      split at hr
      · next sz r hcell =>
        have := hv hst _ r hcell
        rcases (show LocOwn G w p π sz r from h.loc p π _ hcell) with ⟨e1, e2⟩ | ⟨b, o', c, e1, e2, _⟩
        · rw [e2] at this
          subst e1
          cases rg with
          | none => simp at hr; subst hr; exact ⟨Option.none, 0, this, by simp⟩
          | some lh =>
            obtain ⟨lo, hi⟩ := lh
            simp only at hr
            split at hr
            · next hc =>
              simp at hr hc; subst hr
              obtain ⟨rfl, rfl⟩ : lo = 0 ∧ hi = 0 := by omega
              exact ⟨Option.none, 0, by simpa [rgval] using this, by simp⟩
            · cases hr
        · rw [e1] at this
          cases rg with
          | none => simp at hr; subst hr; exact ⟨_, c, this, e2⟩
          | some lh =>
            obtain ⟨lo, hi⟩ := lh
            simp only at hr
            split at hr
            · next hc =>
              simp only [Option.some.injEq] at hr; subst hr
              have hl : ((r.take hi).drop lo).length = hi - lo := by simp; omega
              rw [hl]
              exact ⟨_, c - lo, this, by omega⟩
            · cases hr
      · cases hr
    · cases hr
  | _ => simp [St.rowsOf] at hr

theorem isSliceT_spec {t : TypeId} (h : isSliceT P t = true) : ∃ e, P.underlying t = some (.slice e) := by
  unfold isSliceT at h
  split at h
  · next e hu => exact ⟨e, hu⟩
  · cases h

theorem isStringT_spec {t : TypeId} (h : isStringT P t = true) : P.underlying t = some .string := by
  unfold isStringT at h
  split at h
  · next hu => exact hu
  · cases h

theorem run_builtin {b : Builtin} {args : Array Operand} {argTypes : Array TypeId} (ho : o.op = .call { callee := .builtin b, args := args, argTypes := argTypes }) (w : World) :
    (execOp a.eval o).run P w = (builtin b argTypes o.type (args.map fun | .const _ => true | _ => false) (args.map a.eval)).run P w := by
  simp [execOp, ho, resolve, invoke]
  rfl

theorem len_gives0 (h : R G σ a w) {t : TypeId} {x : Operand} (ho : o.op = .call { callee := .builtin .len, args := #[x], argTypes := #[t] }) {sv : SV} (hs : lenS P σ t x = some sv) : Gives0 P G σ a w o sv := by
  unfold lenS at hs
  split at hs
  · next s hx =>
    have hv := litOf h hx
    split at hs
    · next ht =>
      simp only [Option.some.injEq] at hs; subst hs
      refine give0 (fun w' => ?_) tells_lit
      rw [run_builtin ho]
      simp only [builtin]
      refine run_v ?_
      simp [Builtin.len_, run_underlying (isStringT_spec ht), hv, goInt]
    · cases hs
  · next d _ hx =>
    split at hs
    · next ht =>
      split at hs
      · next rows hr =>
        simp only [Option.some.injEq] at hs; subst hs
        have hrd := h.rd x
        rw [hx] at hrd
        obtain ⟨A, c, hv, _⟩ := rowsOf_val h (tells_one_iff.1 hrd).1 hr
        obtain ⟨e, he⟩ := isSliceT_spec ht
        refine give0 (fun w' => ?_) tells_lit
        rw [run_builtin ho]
        simp only [builtin]
        refine run_v ?_
        simp [Builtin.len_, run_underlying he, hv, goInt]
      · cases hs
    · cases hs
  · cases hs

theorem len_gives (h : R G σ a w) {t : TypeId} {x : Operand} (ho : o.op = .call { callee := .builtin .len, args := #[x], argTypes := #[t] }) {sv : SV} (hs : lenS P σ t x = some sv) : Gives P G σ a w o sv := (len_gives0 h ho hs).gives

end
end Go.AI

/-
  The abstract interpreter, part M: variables are made and written; what an operation leaves as it was.
-/
namespace Go.AI
open Go.RowKit

/-- What a step leaves as it was; 't': the places that it may have touched. -/
structure Kp (t : List Pl) (G : Gh) (w : World) (G' : Gh) (w' : World) : Prop where
  os : w'.os = w.os
  tape : w'.tape = w.tape
  output : w'.output = w.output
  size : w.heap.size ≤ w'.heap.size
  free : ∀ b, b < w.heap.size → G.own b = Option.none → w'.heap[b]? = w.heap[b]? ∧ G'.own b = Option.none
  keep : ∀ b p π, p ∉ t → G.own b = some (p, π) → w'.heap[b]? = w.heap[b]? ∧ G'.own b = some (p, π)
  imm : ∀ b, G.imm b → G'.imm b
  immB : ∀ b, G'.imm b → G.imm b ∨ w.heap.size ≤ b ∨ ∃ p π, p ∈ t ∧ G.own b = some (p, π)

/-- What a step leaves as it was, of the places that came from outside of the frame. -/
structure Fx (σ σ' : St) (G G' : Gh) : Prop where
  n : σ'.n = σ.n
  blk : ∀ i, σ.n ≤ i → G'.blk i = G.blk i
  fl : ∀ i, σ.n ≤ i → ∀ ds', σ'.vr i = some (false, ds') → (∃ ds, σ.vr i = some (false, ds)) ∧ ∀ kj, G'.val (.v i) [kj] = G.val (.v i) [kj]

theorem Fx.refl (σ : St) (G : Gh) : Fx σ σ G G := ⟨rfl, fun _ _ => rfl, fun _ _ ds h => ⟨⟨ds, h⟩, fun _ => rfl⟩⟩

theorem Fx.trans {σ σ' σ'' : St} {G G' G'' : Gh} (h : Fx σ σ' G G') (k : Fx σ' σ'' G' G'') : Fx σ σ'' G G'' :=
  ⟨k.n.trans h.n, fun i hi => (k.blk i (by rw [h.n]; exact hi)).trans (h.blk i hi), fun i hi ds' hd => by
    obtain ⟨⟨ds, h1⟩, h2⟩ := k.fl i (by rw [h.n]; exact hi) ds' hd
    obtain ⟨h3, h4⟩ := h.fl i hi ds h1
    exact ⟨h3, fun kj => (h2 kj).trans (h4 kj)⟩⟩

/-- Where the state's variables keep their kind, and top values stand. -/
theorem Fx.of {σ σ' : St} {G G' : Gh} (hn : σ'.n = σ.n) (hb : ∀ i, σ.n ≤ i → G'.blk i = G.blk i) (hf : ∀ i, σ.n ≤ i → ∀ ds', σ'.vr i = some (false, ds') → ∃ ds, σ.vr i = some (false, ds))
    (hv : ∀ i, σ.n ≤ i → ∀ kj, (∃ ds, σ.vr i = some (false, ds)) → G'.val (.v i) [kj] = G.val (.v i) [kj]) : Fx σ σ' G G' :=
  ⟨hn, hb, fun i hi ds' hd => ⟨hf i hi ds' hd, fun kj => hv i hi kj (hf i hi ds' hd)⟩⟩

theorem Kp.refl (G : Gh) (w : World) : Kp [] G w G w :=
  ⟨rfl, rfl, rfl, Nat.le_refl _, fun _ _ h => ⟨rfl, h⟩, fun _ _ _ _ h => ⟨rfl, h⟩, fun _ h => h, fun _ h => .inl h⟩

theorem Kp.trans {s t : List Pl} {G G' G'' : Gh} {w w' w'' : World} (h : Kp s G w G' w') (k : Kp t G' w' G'' w'') : Kp (s ++ t) G w G'' w'' := by
  refine ⟨k.os.trans h.os, k.tape.trans h.tape, k.output.trans h.output, Nat.le_trans h.size k.size, fun b hb h0 => ?_, fun b p π hp h0 => ?_, fun b hb => k.imm b (h.imm b hb), fun b hb => ?_⟩
  · obtain ⟨h1, h2⟩ := h.free b hb h0
    obtain ⟨h3, h4⟩ := k.free b (Nat.lt_of_lt_of_le hb h.size) h2
    exact ⟨h3.trans h1, h4⟩
  · simp only [List.mem_append, not_or] at hp
    obtain ⟨h1, h2⟩ := h.keep b p π hp.1 h0
    obtain ⟨h3, h4⟩ := k.keep b p π hp.2 h2
    exact ⟨h3.trans h1, h4⟩
  · rcases k.immB b hb with h1 | h1 | ⟨p, π, hp, h1⟩
    · rcases h.immB b h1 with h2 | h2 | ⟨p, π, hp, h2⟩
      · exact .inl h2
      · exact .inr (.inl h2)
      · exact .inr (.inr ⟨p, π, by simp [hp], h2⟩)
    · exact .inr (.inl (Nat.le_trans h.size h1))
    · rcases Nat.lt_or_ge b w.heap.size with hlt | hge
      · cases h0 : G.own b with
        | none => have := (h.free b hlt h0).2; rw [this] at h1; cases h1
        | some q =>
          obtain ⟨q, ρ⟩ := q
          by_cases hq : q ∈ s
          · exact .inr (.inr ⟨q, ρ, by simp [hq], rfl⟩)
          · have := (h.keep b q ρ hq h0).2
            rw [this] at h1
            simp only [Option.some.injEq, Prod.mk.injEq] at h1
            exact .inr (.inr ⟨q, ρ, by rw [h1.1]; simp [hp], rfl⟩)
      · exact .inr (.inl hge)

theorem Kp.mono {s t : List Pl} {G G' : Gh} {w w' : World} (h : Kp s G w G' w') (hst : ∀ p, p ∈ s → p ∈ t) : Kp t G w G' w' :=
  ⟨h.os, h.tape, h.output, h.size, h.free, fun b p π hp => h.keep b p π (fun e => hp (hst p e)), h.imm, fun b hb => (h.immB b hb).imp id (Or.imp id fun ⟨p, π, h1, h2⟩ => ⟨p, π, hst p h1, h2⟩)⟩

theorem SameAt.of_heap {w w' : World} {b : Nat} (h : w'.heap[b]? = w.heap[b]?) : SameAt w w' b := fun o =>
  ⟨World.cell?_of_block (w := w) (a := ⟨b, o, Option.none⟩) h, World.frozen?_of_block (w := w) (a := ⟨b, o, Option.none⟩) h⟩

/-! ### A slot is written -/
theorem R.putK {G : Gh} {σ : St} {a : Act} {w : World} (h : R G σ a w) {d : Nat} (hd : d < σ.n) {sv : SV} {v : Value} (ht : Tells G w σ sv v) :
    ∃ G', R G' (σ.put d sv) (a.put (some d) v) w ∧ Kp [.s d] G w G' w ∧ G'.imm = G.imm ∧ (∀ b p π, p ≠ .s d → G'.own b = some (p, π) → G.own b = some (p, π)) ∧ Fx σ (σ.put d sv) G G' := by
  obtain ⟨G', h1, h2, h3, h4, h5⟩ := h.putT hd ht
  refine ⟨G', h1, ⟨rfl, rfl, rfl, Nat.le_refl _, fun b hb h0 => ⟨rfl, ?_⟩, fun b p π hp h0 => ⟨rfl, (h5 b p π).2 ⟨h0, by simpa using hp⟩⟩, fun b hb => by rw [h2]; exact hb, fun b hb => .inl (by rw [← h2]; exact hb)⟩, h2, fun b p π _ h0 => ((h5 b p π).1 h0).1, Fx.of rfl (fun i _ => by rw [h3]) (fun i _ ds' hd => ⟨ds', hd⟩) (fun i _ kj _ => h4 _ _ (by simp))⟩
  cases ho : G'.own b with
  | none => rfl
  | some q => obtain ⟨q, π⟩ := q; have := ((h5 b q π).1 ho).1; rw [h0] at this; cases this

/-! ### A variable is made -/
def mapLit : List Value → Option (List D)
  | [] => some []
  | v :: r => match litD v, mapLit r with
    | some d, some ds => some (d :: ds)
    | _, _ => Option.none

def tzero (P : Program) (t : TypeId) : Option (List D) := ((P.info? t).bind (·.zero)).bind fun z => mapLit z.cells.toList

theorem litD_spec {v : Value} {d : D} (h : litD v = some d) (G : Gh) (w : World) (σ : St) : LocV G w σ v d ∧ d.refLt σ.tick := by
  unfold litD at h
  split at h <;> simp at h <;> subst h <;> first | exact ⟨RO.lit.2 rfl, trivial⟩ | exact ⟨RO.nilV, trivial⟩

theorem mapLit_spec : ∀ {vs : List Value} {ds : List D}, mapLit vs = some ds → ds.length = vs.length ∧ ∀ (j : Nat) d, ds[j]? = some d → ∃ v, vs[j]? = some v ∧ litD v = some d
  | [], ds, h => by simp [mapLit] at h; subst h; exact ⟨rfl, fun j d hd => by simp at hd⟩
  | v :: r, ds, h => by
    simp only [mapLit] at h
    split at h
    · next d ds' h1 h2 =>
      simp at h; subst h
      obtain ⟨h3, h4⟩ := mapLit_spec h2
      refine ⟨by simp [h3], fun j d' hd => ?_⟩
      cases j with
      | zero => simp at hd; subst hd; exact ⟨v, rfl, h1⟩
      | succ j => simp at hd; obtain ⟨v', h5, h6⟩ := h4 j d' hd; exact ⟨v', by simpa using h5, h6⟩
    · cases h

theorem Kp.alloc (G : Gh) (w : World) (k : Nat) (f : Nat → Value) (o : Obj) (hl : ∀ b q, G.own b = some q → b < w.heap.size) : Kp [.v k] G w (G.newVar k w.heap.size f) (w.alloc o) := by
  have hh : ∀ b, b < w.heap.size → (w.alloc o).heap[b]? = w.heap[b]? := fun b hb => Below.heap_alloc w o b hb
  refine ⟨rfl, rfl, rfl, by simp, fun b hb h0 => ⟨hh b hb, ?_⟩, fun b p π hp h0 => ⟨hh b (hl b _ h0), ?_⟩, fun _ hb => hb, fun _ hb => .inl hb⟩
  · simp [Gh.newVar, Nat.ne_of_lt hb, h0]
  · have hp' : p ≠ .v k := by simpa using hp
    simp [Gh.newVar, Nat.ne_of_lt (hl b _ h0), h0, hp']

section
variable {P : Program} {G : Gh} {σ : St} {a : Act} {w : World} {o : Oper}

/-- A variable is made, and its address put into a slot. -/
theorem R.varAt (h : R G σ a w) {d : Nat} (hd : d < σ.n) {ds : List D} {cs : Array Value} {T : TypeId} (hcs : cs.size = ds.length)
    (hc : ∀ (j : Nat) x, ds[j]? = some x → ∃ u, cs[j]? = some u ∧ LocV G w σ u x ∧ x.refLt σ.tick) :
    ∃ G', R G' ((σ.newVar d ds).put d (.one (.addr (.v d) [] 0 0 σ.tick))) (a.put (some d) (.pointer (some ⟨w.heap.size, 0, Option.none⟩))) (w.alloc (.cells cs T)) ∧
      Kp [.v d, .s d] G w G' (w.alloc (.cells cs T)) ∧ G'.imm = G.imm ∧ Fx σ ((σ.newVar d ds).put d (.one (.addr (.v d) [] 0 0 σ.tick))) G G' := by
  have hcs' : cs.toList = (List.range ds.length).map fun j => cs.getD j undef := by
    apply List.ext_getElem?
    intro j
    by_cases hj : j < ds.length
    · simp [hj, Array.getD, hcs]
    · rw [List.getElem?_eq_none (by simp; omega), List.getElem?_eq_none (by simp; omega)]
  have hg : ∀ (j : Nat) u, cs[j]? = some u → cs.getD j undef = u := fun j u hu => by simp [Array.getD_eq_getD_getElem?, hu]
  have h1 := h.newVar d (T := T) hcs' (fun j x hx => by obtain ⟨u, h1, h2, _⟩ := hc j x hx; rw [hg j u h1]; exact h2)
    (fun j q ρ n rg hx => by obtain ⟨u, h1, h2, h3⟩ := hc j _ hx; exact h3) (fun j q ρ i l n hx => by obtain ⟨u, h1, h2, h3⟩ := hc j _ hx; exact h3)
  have k1 := Kp.alloc G w d (fun j => cs.getD j undef) (.cells cs T) h.ownLt
  obtain ⟨G', h2, k2, h3, _, f2⟩ := h1.putK (d := d) hd (sv := .one (.addr (.v d) [] 0 0 σ.tick)) (v := .pointer (some ⟨w.heap.size, 0, Option.none⟩)) (tells_one (fun _ ad hA => by
    obtain ⟨k, ds', e, _, _, e2⟩ := hA
    cases e
    rw [e2]
    simp [Gh.newVar]) (show σ.tick < σ.tick + 1 by omega))
  have f1 : Fx σ (σ.newVar d ds) G (G.newVar d w.heap.size (fun j => cs.getD j undef)) := Fx.of rfl (fun i hi => by
      simp only [Gh.newVar]; rw [if_neg (by omega)]) (fun i hi ds' hd' => ⟨ds', by simpa [St.newVar, show i ≠ d by omega] using hd'⟩) (fun i hi kj _ => by
      simp only [Gh.newVar]; rw [if_neg (by simp; omega)])
  exact ⟨G', h2, k1.trans k2, h3, f1.trans f2⟩

theorem alloc_run {t : TypeId} {i : TypeInfo} {z : Value} (hi : P.info? t = some i) (hz : i.zero = some z) (ho : o.op = .alloc t) (w : World) :
    (execOp a.eval o).run P w = .ok (.value (.pointer (some ⟨w.heap.size, 0, Option.none⟩))) (w.alloc (.cells z.cells t)) := by
  simp [execOp, ho, Instr.alloc, zeroValue, typeInfo, hi, hz, newVar, newRow]

def allocS (P : Program) (σ : St) (t : TypeId) (d : Nat) : Option St :=
  match tzero P t with
  | some ds => some ((σ.newVar d ds).put d (.one (.addr (.v d) [] 0 0 σ.tick)))
  | Option.none => Option.none

theorem alloc_step (h : R G σ a w) {t : TypeId} {d : Nat} (ho : o.op = .alloc t) (hd : o.dst = some d) (hn : d < σ.n) {σ' : St} (hs : allocS P σ t d = some σ') :
    ∃ v G' w', (execOp a.eval o).run P w = .ok (.value v) w' ∧ R G' σ' (a.put o.dst v) w' ∧ Kp [.v d, .s d] G w G' w' ∧ Fx σ σ' G G' := by
  unfold allocS at hs
  split at hs
  · next ds hz =>
    simp only [Option.some.injEq] at hs; subst hs
    obtain ⟨z, hz1, hz2⟩ := Option.bind_eq_some_iff.1 hz
    obtain ⟨i, hi, hz3⟩ := Option.bind_eq_some_iff.1 hz1
    obtain ⟨hl, hg⟩ := mapLit_spec hz2
    obtain ⟨G', h1, h2, _, f2⟩ := h.varAt hn (ds := ds) (cs := z.cells) (T := t) (by rw [hl]; simp) (fun j x hx => by
      obtain ⟨u, h1, h2⟩ := hg j x hx
      exact ⟨u, by simpa using h1, litD_spec h2 G w σ⟩)
    exact ⟨_, G', _, alloc_run hi hz3 ho w, by rw [hd]; exact h1, h2, f2⟩
  · cases hs

/-- One cell of a value. -/
def D.cellOk : D → Bool
  | .lit v => v.oneCell'
  | .sl _ _ _ | .nil => true
  | .bor _ _ _ _ => true
  | _ => false

/-- The cells of a value that is given. -/
def SV.cells : SV → Option (List D)
  | .one (.lit v) => if v.oneCell' = true then some [.lit v] else Option.none
  | .one d => some [d]
  | .agg ds => some ds
  | _ => Option.none

theorem tells_cells {sv : SV} {v : Value} (ht : Tells G w σ sv v) {ds : List D} (hs : sv.cells = some ds) (h : R G σ a w) (hval : ∀ d, sv = .one d → (∃ u, d = .lit u) ∨ (σ.rowsOf d).isSome = true ∨ ∃ p π i j n, d = .addr p π i j n ∧ σ.okAddr p π i j n = true) :
    v.cells.size = ds.length ∧ ∀ (j : Nat) x, ds[j]? = some x → ∃ u, v.cells[j]? = some u ∧ LocV G w σ u x ∧ x.refLt σ.tick := by
  cases sv with
  | none => cases hs
  | tup cs => cases hs
  | agg es =>
    simp [SV.cells] at hs; subst hs
    obtain ⟨cs, rfl, hl, hc⟩ := tells_agg_iff.1 ht
    refine ⟨by simp [Value.cells, hl], fun j x hx => ?_⟩
    obtain ⟨u, h1, h2⟩ := hc j x hx
    exact ⟨u, by simpa [Value.cells] using h1, h2⟩
  | one d =>
    obtain ⟨h1, h2⟩ := tells_one_iff.1 ht
    have hds : ds = [d] ∧ v.cells = #[v] := by
      rcases hval d rfl with ⟨u, rfl⟩ | hr | ⟨p, π, i, j, n, rfl, hk⟩
      · simp only [SV.cells] at hs
        split at hs
        · next h1c =>
          simp at hs
          have := RO.lit.1 (show RO G.imm w _ _ from h1)
          subst this
          refine ⟨hs.symm, ?_⟩
          cases v <;> simp [Value.oneCell'] at h1c <;> rfl
        · cases hs
      · obtain ⟨rows, hr⟩ := Option.isSome_iff_exists.1 hr
        obtain ⟨A, c, hv, _⟩ := rowsOf_val h h1 hr
        refine ⟨?_, by rw [hv]; rfl⟩
        cases d <;> simp [SV.cells, St.rowsOf] at hs hr <;> exact hs.symm
      · obtain ⟨row, b, o', _, _, hv, _⟩ := h.okAddr hk h1
        refine ⟨?_, by rw [hv]; rfl⟩
        simp [SV.cells] at hs; exact hs.symm
    obtain ⟨rfl, hvc⟩ := hds
    refine ⟨by rw [hvc]; rfl, fun j x hx => ?_⟩
    cases j with
    | zero => simp at hx; subst hx; exact ⟨v, by rw [hvc]; rfl, h1, h2⟩
    | succ j => simp at hx

def SV.okv (σ : St) : SV → Bool
  | .one (.lit _) => true
  | .one (.addr p π i j n) => σ.okAddr p π i j n
  | .one d => (σ.rowsOf d).isSome
  | .agg _ => true
  | _ => false

theorem SV.okv_spec {sv : SV} (h : sv.okv σ = true) : ∀ d, sv = .one d → (∃ u, d = .lit u) ∨ (σ.rowsOf d).isSome = true ∨ ∃ p π i j n, d = .addr p π i j n ∧ σ.okAddr p π i j n = true := by
  rintro d rfl
  cases d with
  | lit u => exact .inl ⟨u, rfl⟩
  | addr p π i j n => exact .inr (.inr ⟨p, π, i, j, n, rfl, h⟩)
  | _ => exact .inr (.inl h)

def boxS (P : Program) (σ : St) (x : Operand) (d : Nat) : Option St :=
  if (σ.rd x).okv σ = true then match (σ.rd x).cells with
    | some ds => some ((σ.newVar d ds).put d (.one (.addr (.v d) [] 0 0 σ.tick)))
    | Option.none => Option.none
  else Option.none

theorem box_step (h : R G σ a w) {t : TypeId} {x : Operand} {d : Nat} (ho : o.op = .box t x) (hd : o.dst = some d) (hn : d < σ.n) {σ' : St} (hs : boxS P σ x d = some σ') :
    ∃ v G' w', (execOp a.eval o).run P w = .ok (.value v) w' ∧ R G' σ' (a.put o.dst v) w' ∧ Kp [.v d, .s d] G w G' w' ∧ Fx σ σ' G G' := by
  unfold boxS at hs
  split at hs
  · next hok =>
    split at hs
    · next ds hc =>
      simp only [Option.some.injEq] at hs; subst hs
      obtain ⟨h1, h2⟩ := tells_cells (h.rd x) hc h (SV.okv_spec hok)
      obtain ⟨G', h3, h4, _, f2⟩ := h.varAt hn (ds := ds) (cs := (a.eval x).cells) (T := t) h1 h2
      refine ⟨_, G', _, ?_, by rw [hd]; exact h3, h4, f2⟩
      simp [execOp, ho, Instr.box, newVar, newRow]
    · cases hs
  · cases hs

end
end Go.AI

/-
  The abstract interpreter, part N: a variable's cells are written; ownership goes over.
-/
namespace Go.AI
open Go.RowKit

def Gh.setVar (G : Gh) (k j : Nat) (u : Value) : Gh :=
  { G.drop (.v k) 0 j with val := fun p π => if p = .v k ∧ π = [(0, j)] then u else G.val p π }

theorem SameAt.setCell {w : World} {b o : Nat} {u : Value} {b' : Nat} (h : b' ≠ b) : SameAt w (w.setCell ⟨b, o, Option.none⟩ u) b' :=
  SameAt.of_heap (Below.heap_setCell w _ u b' h)

/-- One cell of a variable is written. -/
theorem R.setVar1 {G : Gh} {σ : St} {a : Act} {w : World} (h : R G σ a w) {k j : Nat} {ds : List D} (hk : σ.vr k = some (true, ds)) (hj : j < ds.length) {d : D} {u : Value}
    (hd : LocV G w σ u d) (hr : d.refLt σ.tick) :
    R (G.setVar k j u) ((σ.setTop (.v k) 0 j d).bump (.v k) 0 j) a (w.setCell ⟨G.blk k, j, Option.none⟩ u) := by
  obtain ⟨g1, g2, g3⟩ := h.vars k ds hk
  have hcell : (cellIn (σ.rows (.v k)) (0, j)).isSome = true := by simp [St.rows, hk, cellIn, hj]
  have hvalO : ∀ q π, (q = .v k → ¬ ∃ ρ, π = (0, j) :: ρ) → (G.setVar k j u).val q π = G.val q π := fun q π hq => by
    simp only [Gh.setVar]
    rw [if_neg]
    rintro ⟨e1, e2⟩
    exact hq e1 ⟨[], e2⟩
  have hsI : ∀ b, G.imm b → SameAt w (w.setCell ⟨G.blk k, j, Option.none⟩ u) b := fun b hb => SameAt.setCell (fun e => by
    have := h.immOwn b hb; rw [e, g1] at this; cases this)
  refine h.top hcell rfl rfl rfl (h.same fun i k' j' => hvalO _ _ (fun e => by cases e)) hvalO (fun b q π hq hb => Gh.drop_own.2 ⟨hb, hq⟩) ?_ (fun _ hb => hb) hsI
    ?_ ?_ ?_ ?_ ?_ (fun q ρ n rg e => Nat.le_of_lt (by rw [e] at hr; exact hr)) (fun q ρ i l n e => Nat.le_of_lt (by rw [e] at hr; exact hr))
  · intro b q π hq hq2 hb
    refine SameAt.setCell (fun e => ?_)
    rw [e, g1] at hb
    simp only [Option.some.injEq, Prod.mk.injEq] at hb
    exact hq2 hb.1.symm hb.2.symm
  · intro b hb; have := h.immOwn b hb; simp [Gh.setVar, Gh.drop, this]
  · intro b hb; simpa using h.immLt b hb
  · intro b q hb; obtain ⟨q, π⟩ := q; simpa using h.ownLt b _ (Gh.drop_own.1 hb).1
  · intro i ds' e hv
    cases e
    rw [hk] at hv; simp at hv; subst hv
    have hold : ∀ l, l < ds.length → ∃ x, w.cell? ⟨G.blk k, l, Option.none⟩ = some x := fun l hl => ⟨_, g3 l hl⟩
    refine ⟨fun l hl => ?_, fun l hl => ?_⟩
    · rw [Nat.zero_add, World.frozen?_setCell]
      have := g2 l hl
      rw [Nat.zero_add] at this
      refine ⟨?_, this.2⟩
      by_cases e : l = j
      · subst e; rw [World.cell?_setCell_same _ _ _ (g3 l hl)]; rfl
      · rw [World.cell?_setCell_other _ _ _ _ (by rintro e'; cases e'; exact e rfl)]; exact this.1
    · by_cases e : l = j
      · subst e; rw [World.cell?_setCell_same _ _ _ (g3 l hl)]; simp [Gh.setVar]
      · rw [World.cell?_setCell_other _ _ _ _ (by rintro e'; cases e'; exact e rfl), g3 l hl]
        rw [hvalO]
        rintro _ ⟨ρ, e'⟩
        simp at e'; exact e e'.1
  · intro ρ x hx
    cases ρ with
    | nil =>
      simp [D.atU] at hx; subst hx
      refine ⟨Loc.ofV ?_, fun e => absurd rfl e⟩
      have : (G.setVar k j u).val (.v k) [(0, j)] = u := by simp [Gh.setVar]
      rw [this]
      exact top_carry (G := G) (G' := G.setVar k j u) rfl hvalO (fun _ hb => hb) hsI hd (fun q ρ n rg e => by rw [e] at hr; exact hr) (fun q ρ i l n e => by rw [e] at hr; exact hr)
    | cons ij ρ =>
      obtain ⟨s, r, e⟩ := atU_cons hx
      have := hd.notOwn
      rw [e] at this; simp [D.isOwn] at this

def St.setVar (σ : St) (k : Nat) : Nat → List D → St
  | _, [] => σ
  | j, d :: r => ((σ.setTop (.v k) 0 j d).bump (.v k) 0 j).setVar k (j + 1) r

theorem setTop_vr_len {σ : St} {k j : Nat} {d : D} {b : Bool} {ds : List D} (h : σ.vr k = some (b, ds)) : ((σ.setTop (.v k) 0 j d).bump (.v k) 0 j).vr k = some (b, ds.set j d) := by
  simp [St.setTop, St.bump, h]

/-- Cells of a variable are written, one behind the other. -/
theorem R.setVar {k : Nat} : ∀ (xs : List D) (us : List Value) (j : Nat) {G : Gh} {σ : St} {a : Act} {w : World} (h : R G σ a w) {ds : List D} (hk : σ.vr k = some (true, ds)) (hl : us.length = xs.length) (hj : j + xs.length ≤ ds.length)
    (hd : ∀ (i : Nat) x, xs[i]? = some x → ∃ u, us[i]? = some u ∧ LocV G w σ u x ∧ x.refLt σ.tick),
    ∃ G', R G' (σ.setVar k j xs) a (w.setCells (G.blk k) j us) ∧ Kp [.v k] G w G' (w.setCells (G.blk k) j us) ∧ G'.imm = G.imm ∧ G'.blk = G.blk ∧ (∀ p π, p ≠ .v k → G'.val p π = G.val p π)
  | [], us, j, G, σ, a, w, h, ds, hk, hl, hj, hd => by
    have : us = [] := by cases us <;> simp_all
    subst this
    exact ⟨G, h, (Kp.refl G w).mono (fun _ h => by cases h), rfl, rfl, fun _ _ _ => rfl⟩
  | d :: r, us, j, G, σ, a, w, h, ds, hk, hl, hj, hd => by
    cases us with
    | nil => simp at hl
    | cons u us =>
      obtain ⟨u', hu, h1, h2⟩ := hd 0 d rfl
      simp at hu; subst hu
      simp only [List.length_cons] at hl hj
      obtain ⟨g1, _, _⟩ := h.vars k ds hk
      have h3 := h.setVar1 hk (show j < ds.length by omega) h1 h2
      have hvalO : ∀ q π, (q = .v k → ¬ ∃ ρ, π = (0, j) :: ρ) → (G.setVar k j u).val q π = G.val q π := fun q π hq => by
        simp only [Gh.setVar]
        rw [if_neg]
        rintro ⟨e1, e2⟩
        exact hq e1 ⟨[], e2⟩
      have hsI : ∀ b, G.imm b → SameAt w (w.setCell ⟨G.blk k, j, Option.none⟩ u) b := fun b hb => SameAt.setCell (fun e => by
        have := h.immOwn b hb; rw [e, g1] at this; cases this)
      obtain ⟨G', h4, k4, e4, b4, v4⟩ := R.setVar r us (j + 1) h3 (setTop_vr_len hk) (by omega) (by simp; omega) (fun i x hx => by
        obtain ⟨v, q1, q2, q3⟩ := hd (i + 1) x (by simpa using hx)
        refine ⟨v, by simpa using q1, top_carry (G := G) (G' := G.setVar k j u) rfl hvalO (fun _ hb => hb) hsI q2 (fun q ρ n rg e => by rw [e] at q3; exact q3) (fun q ρ i l n e => by rw [e] at q3; exact q3), ?_⟩
        rw [setTop_tick]
        cases x <;> first | trivial | exact Nat.lt_succ_of_lt q3)
      have k3 : Kp [.v k] G w (G.setVar k j u) (w.setCell ⟨G.blk k, j, Option.none⟩ u) := by
        refine ⟨rfl, rfl, rfl, by simp, fun b hb h0 => ⟨?_, ?_⟩, fun b p π hp h0 => ⟨?_, ?_⟩, fun _ hb => hb, fun _ hb => .inl hb⟩
        · exact Below.heap_setCell w _ u b (fun e => by rw [e] at h0; simp at h0; rw [g1] at h0; cases h0)
        · simp [Gh.setVar, Gh.drop, h0]
        · refine Below.heap_setCell w _ u b (fun e => ?_)
          rw [e] at h0; simp at h0; rw [g1] at h0; simp at h0; exact hp (by simp [h0.1])
        · exact Gh.drop_own.2 ⟨h0, fun e => absurd (by simp [e]) hp⟩
      exact ⟨G', h4, (k3.trans k4).mono (fun p hp => by simpa using hp), by rw [e4]; rfl, by rw [b4]; rfl, fun p π hp => by rw [v4 p π hp]; exact hvalO p π (fun e => absurd e hp)⟩

/-! ### What is on loan in a place's top cell is claimed -/
def St.claim1 (σ : St) (p : Pl) (k' j' : Nat) : St :=
  match cellIn (σ.rows p) (k', j') with
  | some (.bor q [(k, j)] n Option.none) => match cellIn (σ.rows q) (k, j) with
    | some (.sl true sz rows) => if n = σ.sb q (k, j) ∧ ¬ (q = p ∧ (k, j) = (k', j')) then
        (((((σ.setTop q k j .dead).bump q k j).setTop p k' j' (.sl true sz rows)).bump p k' j').setTop q k j (.bor p [(k', j')] (σ.tick + 1) Option.none)).bump q k j else σ
    | _ => σ
  | _ => σ

def St.claimT (σ : St) (p : Pl) (k' j' : Nat) : List Pl :=
  match cellIn (σ.rows p) (k', j') with
  | some (.bor q [(k, j)] n Option.none) => [p, q]
  | _ => []

theorem R.claim1 {G : Gh} {σ : St} {a : Act} {w : World} (h : R G σ a w) (p : Pl) (k' j' : Nat) : ∃ G', R G' (σ.claim1 p k' j') a w ∧ Kp (σ.claimT p k' j') G w G' w ∧ G'.imm = G.imm ∧ Fx σ (σ.claim1 p k' j') G G' := by
  unfold St.claim1 St.claimT
  split
  · next q k j n hp =>
    split
    · next sz rows hq =>
      split
      · next hc =>
        obtain ⟨rfl, hne⟩ := hc
        obtain ⟨G', h1, h2, h3, h4, h5, h6⟩ := h.claim hne hq hp
        refine ⟨G', h1, ⟨rfl, rfl, rfl, Nat.le_refl _, fun b hb h0 => ⟨rfl, (h3 b).2 (.inl h0)⟩, fun b x π hx h0 => ⟨rfl, (h4 b x π (fun e => hx (by simp [e])) (fun e => hx (by simp [e]))).2 h0⟩, fun b hb => by rw [h2]; exact hb, fun b hb => .inl (by rw [← h2]; exact hb)⟩, h2, Fx.of (by cases p <;> cases q <;> rfl) (fun i _ => by rw [h5]) (fun i _ ds' hd => ?_) (fun i _ kj _ => h6 _ _)⟩
        obtain ⟨d1, e1, _⟩ := setTop_vr hd
        obtain ⟨d2, e2, _⟩ := setTop_vr e1
        obtain ⟨d3, e3, _⟩ := setTop_vr e2
        exact ⟨d3, e3⟩
      · exact ⟨G, h, (Kp.refl G w).mono (fun _ h => by cases h), rfl, Fx.refl σ G⟩
    · exact ⟨G, h, (Kp.refl G w).mono (fun _ h => by cases h), rfl, Fx.refl σ G⟩
  · exact ⟨G, h, Kp.refl G w, rfl, Fx.refl σ G⟩

def St.claims (σ : St) (p : Pl) (k : Nat) : Nat → Nat → St
  | _, 0 => σ
  | j, n + 1 => (σ.claim1 p k j).claims p k (j + 1) n

def St.claimsT (σ : St) (p : Pl) (k : Nat) : Nat → Nat → List Pl
  | _, 0 => []
  | j, n + 1 => σ.claimT p k j ++ (σ.claim1 p k j).claimsT p k (j + 1) n

theorem R.claims {p : Pl} {k : Nat} {a : Act} {w : World} : ∀ (n j : Nat) {G : Gh} {σ : St} (h : R G σ a w), ∃ G', R G' (σ.claims p k j n) a w ∧ Kp (σ.claimsT p k j n) G w G' w ∧ G'.imm = G.imm ∧ Fx σ (σ.claims p k j n) G G'
  | 0, j, G, σ, h => ⟨G, h, Kp.refl G w, rfl, Fx.refl σ G⟩
  | n + 1, j, G, σ, h => by
    obtain ⟨G1, h1, k1, e1, f1⟩ := h.claim1 p k j
    obtain ⟨G2, h2, k2, e2, f2⟩ := R.claims n (j + 1) h1
    exact ⟨G2, h2, k1.trans k2, e2.trans e1, f1.trans f2⟩

/-! ### Frozen -/
def St.freeze (σ : St) (p : Pl) (k j : Nat) : St :=
  match cellIn (σ.rows p) (k, j) with
  | some (.sl true sz rows) => (σ.setTop p k j (.sl false sz rows)).bump p k j
  | _ => σ

theorem R.freezeK {G : Gh} {σ : St} {a : Act} {w : World} (h : R G σ a w) (p : Pl) (k j : Nat) : ∃ G', R G' (σ.freeze p k j) a w ∧ Kp [p] G w G' w ∧ Fx σ (σ.freeze p k j) G G' := by
  unfold St.freeze
  split
  · next sz rows hc =>
    refine ⟨_, h.freeze hc, ⟨rfl, rfl, rfl, Nat.le_refl _, fun b hb h0 => ⟨rfl, ?_⟩, fun b x π hx h0 => ⟨rfl, ?_⟩, fun b hb => .inl hb, fun b hb => ?_⟩, ?_⟩
    · simp [Gh.freeze, Gh.drop, h0]
    · exact Gh.drop_own.2 ⟨h0, fun e => absurd (by simp [e]) hx⟩
    · rcases hb with hb | ⟨ρ, hb⟩
      · exact .inl hb
      · exact .inr (.inr ⟨p, _, by simp, hb⟩)
    · refine Fx.of (by cases p <;> rfl) (fun _ _ => rfl) (fun i _ ds' hd => ?_) (fun _ _ _ _ => rfl)
      obtain ⟨d1, e1, _⟩ := setTop_vr hd
      exact ⟨d1, e1⟩
  · exact ⟨G, h, (Kp.refl G w).mono (fun _ h => by cases h), Fx.refl σ G⟩

end Go.AI

/-
  The abstract interpreter, part O: an element of an owned slice is written; the slice itself stays where it is.
-/
namespace Go.AI
open Go.RowKit

def St.bumpC (σ : St) (p : Pl) (k j : Nat) : St := { σ with sc := fun q ij => if q = p ∧ ij = (k, j) then σ.tick else σ.sc q ij, tick := σ.tick + 1 }

theorem bumpC_cell {σ : St} {p q : Pl} {k j : Nat} {π : Path} : (σ.bumpC p k j).cell q π = σ.cell q π := by cases π <;> rfl
theorem setTopC_n {σ : St} {p : Pl} {k j : Nat} {d : D} : ((σ.setTop p k j d).bumpC p k j).n = σ.n := by cases p <;> rfl
theorem setTopC_tick {σ : St} {p : Pl} {k j : Nat} {d : D} : ((σ.setTop p k j d).bumpC p k j).tick = σ.tick + 1 := by cases p <;> rfl
theorem setTopC_stp0 {σ : St} {p : Pl} {k j : Nat} {d : D} (q : Pl) : ((σ.setTop p k j d).bumpC p k j).stp q [] = σ.stp q [] := by cases p <;> cases q <;> rfl
theorem setTopC_stp1 {σ : St} {p : Pl} {k j : Nat} {d : D} (q : Pl) (ij : Nat × Nat) : ((σ.setTop p k j d).bumpC p k j).stp q [ij] = σ.stp q [ij] := by cases p <;> rfl
theorem setTopC_stpO {σ : St} {p : Pl} {k j : Nat} {d : D} {q : Pl} (π : Path) (hq : q = p → ¬ ∃ ρ, π = (k, j) :: ρ) : ((σ.setTop p k j d).bumpC p k j).stp q π = σ.stp q π := by
  rcases π with _ | ⟨ij, _ | ⟨kl, π⟩⟩
  · exact setTopC_stp0 q
  · exact setTopC_stp1 q ij
  · have : ¬ (q = p ∧ ij = (k, j)) := fun e => hq e.1 ⟨kl :: π, by rw [e.2]⟩
    cases p <;> simp [St.stp, St.bumpC, St.setTop, this]
theorem setTopC_stpP {σ : St} {p : Pl} {k j : Nat} {d : D} (ij : Nat × Nat) (ρ : Path) : ((σ.setTop p k j d).bumpC p k j).stp p ((k, j) :: ij :: ρ) = σ.tick := by
  cases p <;> simp [St.stp, St.bumpC, St.setTop]

/-- What a datum says, when an element of an owned slice is written. -/
theorem topC_carry {G : Gh} {σ : St} {w : World} {p : Pl} {k j : Nat} {sz : Nat} {rows0 rows' : List (List D)} {G' : Gh} {w' : World} (hblk : G'.blk = G.blk)
    (hcell : cellIn (σ.rows p) (k, j) = some (.sl true sz rows0)) (hval0 : G'.val p [(k, j)] = G.val p [(k, j)])
    (hval : ∀ q π, (q = p → ¬ ∃ ρ, π = (k, j) :: ρ) → G'.val q π = G.val q π)
    (himm : ∀ b, G.imm b → G'.imm b) (hsi : ∀ b, G.imm b → SameAt w w' b) {u : Value} {x : D} (hx : LocV G w σ u x)
    (hxb : ∀ q ρ n rg, x = .bor q ρ n rg → n < σ.tick) (hxa : ∀ q ρ i l n, x = .addr q ρ i l n → n < σ.tick) :
    LocV G' w' ((σ.setTop p k j (.sl true sz rows')).bumpC p k j) u x := by
  have hcellO : ∀ q π, (q = p → ¬ ∃ ρ, π = (k, j) :: ρ) → ((σ.setTop p k j (.sl true sz rows')).bumpC p k j).cell q π = σ.cell q π := fun q π hq => by rw [bumpC_cell, setTop_cell_other hq]
  have hcellS : ∀ ρ, ((σ.setTop p k j (.sl true sz rows')).bumpC p k j).cell p ((k, j) :: ρ) = (D.sl true sz rows').atU ρ := fun ρ => by rw [bumpC_cell, setTop_cell_same (by rw [hcell]; rfl)]
  have key : ∀ q π n, π ≠ [] → n < σ.tick → ((σ.setTop p k j (.sl true sz rows')).bumpC p k j).stp q π = n → ∀ sz' rows, ((σ.setTop p k j (.sl true sz rows')).bumpC p k j).cell q π = some (.sl true sz' rows) →
      σ.stp q π = n ∧ (∃ rows'', σ.cell q π = some (.sl true sz' rows'')) ∧ G'.val q π = G.val q π := by
    intro q π n hne hn hs sz' rows hc
    rcases under_split p q k j π with ⟨ρ, rfl, rfl⟩ | hn'
    · cases ρ with
      | cons ij ρ => rw [setTopC_stpP] at hs; omega
      | nil =>
        rw [setTopC_stp1] at hs
        refine ⟨hs, ?_⟩
        rw [hcellS] at hc
        simp only [D.atU, Option.some.injEq, D.sl.injEq, true_and] at hc
        exact ⟨⟨rows0, by simp [St.cell, hcell, D.atU, hc.1]⟩, hval0⟩
    · rw [setTopC_stpO _ hn'] at hs
      rw [hcellO q _ hn'] at hc
      exact ⟨hs, ⟨rows, hc⟩, hval q _ hn'⟩
  refine hx.carry himm hsi ?_ ?_
  · intro q π n rg e hs sz' rows hc
    have hne : π ≠ [] := fun e => by rw [e] at hc; simp [St.cell] at hc
    exact key q π n hne (hxb q π n rg e) hs sz' rows hc
  · intro q π i l n e hs ad hA
    cases π with
    | nil =>
      rw [setTopC_stp0] at hs
      refine ⟨hs, hA.congr (fun _ k' ds _ hk => ?_) (fun hne => absurd rfl hne)⟩
      obtain ⟨ds', h1, _⟩ := setTop_vr (show (σ.setTop p k j _).vr k' = some (true, ds) from hk)
      exact ⟨⟨ds', h1⟩, by rw [hblk]⟩
    | cons ij π =>
      obtain ⟨sz', rows, b, o, m, c, h1, h2, h3⟩ := (show ∃ sz rows b o n c, _ from hA)
      have h4 := key q (ij :: π) n (by simp) (hxa q _ i l n e) hs sz' rows h1
      refine ⟨h4.1, hA.congr (fun he => by simp at he) (fun _ sz'' rows'' hc => ?_)⟩
      have h5 := key q (ij :: π) n (by simp) (hxa q _ i l n e) hs sz'' rows'' hc
      exact ⟨h5.2.1, h5.2.2⟩

/-- An element of an owned slice at the top of a place is written. -/
theorem R.topC {G : Gh} {σ : St} {a : Act} {w : World} (h : R G σ a w) {p : Pl} {k j : Nat} {sz : Nat} {rows0 rows' : List (List D)} {G' : Gh} {w' : World} {a' : Act}
    (hcell0 : cellIn (σ.rows p) (k, j) = some (.sl true sz rows0)) (hval0 : G'.val p [(k, j)] = G.val p [(k, j)]) (hblk : G'.blk = G.blk)
    (hasz : a'.tmps.size = a.tmps.size) (had : a'.defers = a.defers)
    (hslots : ∀ i, i < σ.n → SVrel (fun k j => G'.val (.s i) [(k, j)]) (a'.tmps.getD i undef) (σ.sl i))
    (hval : ∀ q π, (q = p → ¬ ∃ ρ, π = (k, j) :: ρ) → G'.val q π = G.val q π)
    (hown : ∀ b q π, (q = p → ¬ ∃ ρ, π = (k, j) :: ρ) → G.own b = some (q, π) → G'.own b = some (q, π))
    (hsame : ∀ b q π, (q = p → ¬ ∃ ρ, π = (k, j) :: ρ) → (q = p → π ≠ []) → G.own b = some (q, π) → SameAt w w' b)
    (himm : ∀ b, G.imm b → G'.imm b) (hsi : ∀ b, G.imm b → SameAt w w' b)
    (hio : ∀ b, G'.imm b → G'.own b = Option.none) (hil : ∀ b, G'.imm b → b < w'.heap.size) (hol : ∀ b q, G'.own b = some q → b < w'.heap.size)
    (hvar : ∀ i ds, p = .v i → σ.vr i = some (true, ds) → w'.there (G.blk i) 0 ds.length ∧ ∀ l, l < ds.length → w'.cell? ⟨G.blk i, l, Option.none⟩ = some (G'.val p [(0, l)]))
    (hN : ∀ ρ x, (D.sl true sz rows').atU ρ = some x → Loc G' w' ((σ.setTop p k j (.sl true sz rows')).bumpC p k j) p ((k, j) :: ρ) x ∧ (ρ ≠ [] → x.solid = true))
    :
    R G' ((σ.setTop p k j (.sl true sz rows')).bumpC p k j) a' w' := by
  have hcell : (cellIn (σ.rows p) (k, j)).isSome = true := by rw [hcell0]; rfl
  have hcellO : ∀ q π, (q = p → ¬ ∃ ρ, π = (k, j) :: ρ) → ((σ.setTop p k j (.sl true sz rows')).bumpC p k j).cell q π = σ.cell q π := fun q π hq => by rw [bumpC_cell, setTop_cell_other hq]
  have hcellS : ∀ ρ, ((σ.setTop p k j (.sl true sz rows')).bumpC p k j).cell p ((k, j) :: ρ) = (D.sl true sz rows').atU ρ := fun ρ => by rw [bumpC_cell, setTop_cell_same hcell]
  have hsb : (σ.setTop p k j (.sl true sz rows')).sb = σ.sb := by cases p <;> rfl
  have hsc : (σ.setTop p k j (.sl true sz rows')).sc = σ.sc := by cases p <;> rfl
  have hsa : (σ.setTop p k j (.sl true sz rows')).sa = σ.sa := by cases p <;> rfl
  have htick : (σ.setTop p k j (.sl true sz rows')).tick = σ.tick := by cases p <;> rfl
  have hap : ∀ (q : Pl) (π : Path), σ.cell q π ≠ Option.none → π ≠ [] := fun q π hc e => hc (by rw [e]; rfl)
  refine ⟨by rw [hasz, setTopC_n]; exact h.size, by rw [had]; exact h.defers, ?_, ?_, ?_, ?_, hio, hil, hol, ?_, ?_, ?_, ?_, ?_⟩
  · intro i hi
    rw [setTopC_n] at hi
    have h0 := hslots i hi
    cases p with
    | v i' => exact h0
    | s i' =>
      by_cases e : i = i'
      · subst e
        show SVrel _ _ ((if i = i then (σ.sl i).set k j (.sl true sz rows') else σ.sl i))
        rw [if_pos rfl]
        exact SVrel_set.2 h0
      · show SVrel _ _ ((if i = i' then (σ.sl i').set k j (.sl true sz rows') else σ.sl i))
        rw [if_neg e]
        exact h0
  · intro i ds hk
    obtain ⟨ds', h1, h2⟩ := setTop_vr (show (σ.setTop p k j (.sl true sz rows')).vr i = some (true, ds) from hk)
    obtain ⟨g1, g2, g3⟩ := h.vars i ds' h1
    rw [hblk]
    refine ⟨hown _ _ _ (fun _ => by simp) g1, ?_⟩
    by_cases e : p = .v i
    · obtain ⟨q1, q2⟩ := hvar i ds' e h1
      rw [← h2, ← e]; exact ⟨q1, q2⟩
    · have hs := hsame _ _ _ (fun _ => by simp) (fun e' => absurd e'.symm e) g1
      refine ⟨fun l hl => ?_, fun l hl => ?_⟩
      · rw [(hs _).1, (hs _).2]; exact g2 l (by omega)
      · rw [(hs _).1, hval _ _ (fun e' => absurd e'.symm e)]; exact g3 l (by omega)
  · intro q π x hx
    rcases under_split p q k j π with ⟨ρ, rfl, rfl⟩ | hq
    · rw [hcellS] at hx; exact (hN ρ x hx).1
    · rw [hcellO q π hq] at hx
      have hl := h.loc q π x hx
      by_cases ho : x.isOwn = true
      · cases x with
        | sl u sz rows =>
          cases u with
          | false => simp [D.isOwn] at ho
          | true =>
            have hne := hap q π (by rw [hx]; simp)
            refine LocOwn.carry hl (hval q π hq) (fun ij => hval q _ (fun e => ?_)) (fun b hb => hown b q π hq hb) (fun b hb => hsame b q π hq (fun _ => hne) hb)
            rintro ⟨ρ, he⟩
            cases π with
            | nil => exact hne rfl
            | cons kl π => simp at he; exact hq e ⟨π, by rw [he.1]⟩
        | _ => simp [D.isOwn] at ho
      · refine Loc.ofV ?_
        rw [hval q π hq]
        exact topC_carry hblk hcell0 hval0 hval himm hsi (hl.toV (by simpa using ho)) (fun q' ρ n rg e => by rw [e] at hx; exact h.stBor q π q' ρ n rg hx) (fun q' ρ i l n e => by rw [e] at hx; exact h.stAddr q π q' ρ i l n hx)
  · intro q ij kl ρ x hx
    rcases under_split p q k j (ij :: kl :: ρ) with ⟨ρ', rfl, e⟩ | hq
    · rw [e, hcellS] at hx
      simp only [List.cons.injEq] at e
      exact (hN ρ' x hx).2 (by rw [← e.2]; simp)
    · rw [hcellO q _ hq] at hx; exact h.deep q ij kl ρ x hx
  · intro i; have := h.stA i; simp only [St.bumpC, hsa, htick]; omega
  · intro q ij; have := h.stB q ij; simp only [St.bumpC, hsb, htick]; omega
  · intro q ij; have := h.stC q ij; simp only [St.bumpC, hsc, htick]; split <;> omega
  · intro q π q' ρ n rg hx
    rw [setTopC_tick]
    rcases under_split p q k j π with ⟨ρ', rfl, rfl⟩ | hq
    · rw [hcellS] at hx
      cases ρ' with
      | nil => simp [D.atU] at hx
      | cons ij ρ' => have := (hN _ _ hx).2 (by simp); simp [D.solid] at this
    · rw [hcellO q π hq] at hx; have := h.stBor q π q' ρ n rg hx; omega
  · intro q π q' ρ i l n hx
    rw [setTopC_tick]
    rcases under_split p q k j π with ⟨ρ', rfl, rfl⟩ | hq
    · rw [hcellS] at hx
      cases ρ' with
      | nil => simp [D.atU] at hx
      | cons ij ρ' => have := (hN _ _ hx).2 (by simp); simp [D.solid] at this
    · rw [hcellO q π hq] at hx; have := h.stAddr q π q' ρ i l n hx; omega

/-- An owned slice at a top cell gets other elements, in place. -/
theorem R.setOwnC {G : Gh} {σ : St} {a : Act} {w : World} (h : R G σ a w) {p : Pl} {k j : Nat} {sz : Nat} {rows0 rows : List (List D)} {b o c : Nat} {v : Value} {g : Nat → Nat → Value} {w' : World} {a' : Act}
    (hcell : cellIn (σ.rows p) (k, j) = some (.sl true sz rows0)) (hvv : v = G.val p [(k, j)]) (hasz : a'.tmps.size = a.tmps.size) (had : a'.defers = a.defers)
    (hslots : ∀ i, i < σ.n → SVrel (fun k' j' => if p = .s i ∧ (k', j') = (k, j) then v else G.val (.s i) [(k', j')]) (a'.tmps.getD i undef) (σ.sl i))
    (hb : G.own b = Option.none ∨ G.own b = some (p, [(k, j)])) (hbi : ¬ G.imm b) (hbl : b < w'.heap.size)
    (hsz : w.heap.size ≤ w'.heap.size) (hw : ∀ b', b' ≠ b → b' < w.heap.size → SameAt w w' b')
    (hv : v = .slice (some ⟨b, o, Option.none⟩) rows.length c) (hc : rows.length ≤ c) (ht : w'.there b o (c * sz))
    (hcells : ∀ i row, rows[i]? = some row → row.length = sz ∧ ∀ l, l < sz → w'.cell? ⟨b, o + i * sz + l, Option.none⟩ = some (g i l))
    (hx : ∀ i l x, cellIn rows (i, l) = some x → (RO G.imm w x (g i l) ∧ x.solid = true ∧ x.isOwn = false) ∨
      (σ.cell p [(k, j), (i, l)] = some x ∧ g i l = G.val p [(k, j), (i, l)]))
    (hvar : ∀ i ds, p = .v i → σ.vr i = some (true, ds) → w'.there (G.blk i) 0 ds.length ∧ ∀ l, l < ds.length → w'.cell? ⟨G.blk i, l, Option.none⟩ = some (if (0, l) = (k, j) then v else G.val p [(0, l)])) :
    R (G.setOwn p k j b v g rows) ((σ.setTop p k j (.sl true sz rows)).bumpC p k j) a' w' := by
  have hvalO : ∀ x π, (x = p → ¬ ∃ ρ, π = (k, j) :: ρ) → (G.setOwn p k j b v g rows).val x π = G.val x π := fun x π hx => by
    simp only [Gh.setOwn, under_none.2 hx]
  have hv0 : (G.setOwn p k j b v g rows).val p [(k, j)] = v := by
    have : under p k j (p, [(k, j)]) = some [] := under_some.2 ⟨rfl, rfl⟩
    simp only [Gh.setOwn, this]
  have hv1 : ∀ i l, (G.setOwn p k j b v g rows).val p [(k, j), (i, l)] = g i l := fun i l => by
    have : under p k j (p, [(k, j), (i, l)]) = some [(i, l)] := under_some.2 ⟨rfl, rfl⟩
    simp only [Gh.setOwn, this]
  have hv2 : ∀ ij kl ρ, (G.setOwn p k j b v g rows).val p ((k, j) :: ij :: kl :: ρ) = G.val p ((k, j) :: ij :: kl :: ρ) := fun ij kl ρ => by
    have : under p k j (p, (k, j) :: ij :: kl :: ρ) = some (ij :: kl :: ρ) := under_some.2 ⟨rfl, rfl⟩
    simp only [Gh.setOwn, this]
  have hownb : (G.setOwn p k j b v g rows).own b = some (p, [(k, j)]) := by simp [Gh.setOwn]
  have hownN : ∀ b', b' ≠ b → ∀ x π, (G.setOwn p k j b v g rows).own b' = some (x, π) ↔
      G.own b' = some (x, π) ∧ (∀ ρ, x = p → π = (k, j) :: ρ → ∃ ij τ, ρ = ij :: τ ∧ ∃ y, cellIn rows ij = some y ∧ y.isOwn = true) := by
    intro b' hbb x π
    simp only [Gh.setOwn, if_neg hbb]
    cases hb' : G.own b' with
    | none => simp
    | some xp =>
      obtain ⟨y, τ⟩ := xp
      simp only
      cases hu : under p k j (y, τ) with
      | none =>
        have hn := under_none.1 hu
        constructor
        · intro e; cases e; exact ⟨rfl, fun ρ e1 e2 => absurd ⟨ρ, e2⟩ (hn e1)⟩
        · rintro ⟨e, _⟩; exact e
      | some ρ =>
        obtain ⟨rfl, rfl⟩ := under_some.1 hu
        cases ρ with
        | nil =>
          constructor
          · intro e; cases e
          · rintro ⟨e, h2⟩
            cases e
            obtain ⟨ij, τ, e, _⟩ := h2 [] rfl rfl
            cases e
        | cons ij ρ =>
          by_cases e : ∃ x, cellIn rows ij = some x ∧ x.isOwn = true
          · simp only [if_pos e]
            constructor
            · intro e'; cases e'
              refine ⟨rfl, fun ρ' _ e2 => ?_⟩
              simp only [List.cons.injEq, true_and] at e2
              exact ⟨ij, ρ, e2.symm, e⟩
            · rintro ⟨e', _⟩; exact e'
          · simp only [if_neg e]
            constructor
            · intro e'; cases e'
            · rintro ⟨e', h2⟩
              cases e'
              obtain ⟨ij', τ, e2, h3⟩ := h2 (ij :: ρ) rfl rfl
              simp only [List.cons.injEq] at e2
              rw [← e2.1] at h3
              exact absurd h3 e
  have himmS : ∀ b', G.imm b' → SameAt w w' b' := fun b' hb' => hw b' (fun e => hbi (e ▸ hb')) (h.immLt b' hb')
  refine h.topC hcell (hv0.trans hvv) rfl hasz had ?_ hvalO ?_ ?_ (fun _ hb => hb) himmS ?_ (fun b' hb' => Nat.lt_of_lt_of_le (h.immLt b' hb') hsz) ?_ ?_ ?_
  · intro i hi
    refine (SVrel_congr fun k' j' => ?_).1 (hslots i hi)
    rcases under_split p (.s i) k j [(k', j')] with ⟨ρ, e1, e2⟩ | hn
    · simp only [List.cons.injEq] at e2
      obtain ⟨e2, rfl⟩ := e2
      rw [if_pos ⟨e1.symm, e2⟩, e1, e2, hv0]
    · rw [hvalO _ _ hn, if_neg]
      rintro ⟨e1, e2⟩
      exact hn e1.symm ⟨[], by rw [e2]⟩
  · intro b' x π hn hb'
    by_cases e : b' = b
    · subst e
      rcases hb with e | e
      · rw [e] at hb'; cases hb'
      · rw [e] at hb'; cases hb'; exact absurd ⟨[], rfl⟩ (hn rfl)
    · exact (hownN b' e x π).2 ⟨hb', fun ρ e1 e2 => absurd ⟨ρ, e2⟩ (hn e1)⟩
  · intro b' x π hn _ hb'
    refine hw b' (fun e => ?_) (h.ownLt b' _ hb')
    subst e
    rcases hb with e | e
    · rw [e] at hb'; cases hb'
    · rw [e] at hb'; cases hb'; exact absurd ⟨[], rfl⟩ (hn rfl)
  · intro b' hb'
    have hne : b' ≠ b := fun e => hbi (e ▸ hb')
    have := h.immOwn b' hb'
    simp [Gh.setOwn, hne, this]
  · intro b' xp hb'
    by_cases e : b' = b
    · subst e; exact hbl
    · obtain ⟨x, π⟩ := xp
      exact Nat.lt_of_lt_of_le (h.ownLt b' _ ((hownN b' e x π).1 hb').1) hsz
  · intro i ds e hvr
    obtain ⟨h1, h2⟩ := hvar i ds e hvr
    refine ⟨h1, fun l hl => ?_⟩
    rw [h2 l hl]
    by_cases e2 : (0, l) = (k, j)
    · rw [if_pos e2, e2, hv0]
    · rw [if_neg e2, hvalO]
      rintro _ ⟨ρ, e3⟩
      simp only [List.cons.injEq] at e3
      exact e2 e3.1
  · intro ρ x hxx
    cases ρ with
    | nil =>
      simp [D.atU] at hxx; subst hxx
      refine ⟨?_, fun e => absurd rfl e⟩
      show LocOwn _ w' p [(k, j)] sz rows
      refine .inr ⟨b, o, c, by rw [hv0]; exact hv, hc, hownb, ht, fun i row hr => ⟨(hcells i row hr).1, fun l hl => ?_⟩⟩
      rw [show [(k, j)] ++ [(i, l)] = [(k, j), (i, l)] from rfl, hv1]
      exact (hcells i row hr).2 l hl
    | cons ij ρ =>
      obtain ⟨i, l⟩ := ij
      simp only [D.atU] at hxx
      cases hci : cellIn rows (i, l) with
      | none => rw [hci] at hxx; cases hxx
      | some y =>
        rw [hci] at hxx
        rcases hx i l y hci with ⟨hro, hsol, hno⟩ | ⟨hold, hg⟩
        · -- a new one
          cases ρ with
          | cons kl ρ =>
            obtain ⟨s', r', e⟩ := atU_cons hxx
            rw [e] at hno; simp [D.isOwn] at hno
          | nil =>
            simp [D.atU] at hxx; subst hxx
            refine ⟨Loc.ofV ?_, fun _ => hsol⟩
            rw [hv1]
            exact LocV.ofSolid (hro.mono (fun _ hb => hb) himmS) hsol hno
        · -- one that was there
          have hcellp : ∀ τ, σ.cell p ((k, j) :: (i, l) :: τ) = y.atU τ := fun τ => by
            simp only [St.cell] at hold ⊢
            cases hk : cellIn (σ.rows p) (k, j) with
            | none => rw [hk] at hold; cases hold
            | some z =>
              rw [hk] at hold
              obtain ⟨s', r', rfl⟩ := atU_cons hold
              simp only [D.atU] at hold ⊢
              cases hr : cellIn r' (i, l) with
              | none => rw [hr] at hold; cases hold
              | some z' => rw [hr] at hold; simp at hold; rw [hold]
          have hl := h.loc p ((k, j) :: (i, l) :: ρ) x (by rw [hcellp]; exact hxx)
          have hsol := h.deep p (k, j) (i, l) ρ x (by rw [hcellp]; exact hxx)
          have hvv : ∀ τ, (G.setOwn p k j b v g rows).val p ((k, j) :: (i, l) :: τ) = G.val p ((k, j) :: (i, l) :: τ) := fun τ => by
            cases τ with
            | nil => rw [hv1, hg]
            | cons kl τ => exact hv2 _ _ _
          refine ⟨?_, fun _ => hsol⟩
          by_cases ho : x.isOwn = true
          · cases x with
            | sl u sz' rows' =>
              cases u with
              | false => simp [D.isOwn] at ho
              | true =>
                have hyo : y.isOwn = true := by
                  cases ρ with
                  | nil => simp [D.atU] at hxx; rw [hxx]; rfl
                  | cons kl ρ => obtain ⟨s', r', e⟩ := atU_cons hxx; rw [e]; rfl
                have hnb : ∀ b', G.own b' = some (p, (k, j) :: (i, l) :: ρ) → b' ≠ b := by
                  rintro b' hb' rfl
                  rcases hb with e | e
                  · rw [e] at hb'; cases hb'
                  · rw [e] at hb'; simp at hb'
                refine LocOwn.carry hl (hvv ρ) (fun ij => by rw [List.cons_append, List.cons_append]; exact hvv _) (fun b' hb' => ?_) (fun b' hb' => hw b' (hnb b' hb') (h.ownLt b' _ hb'))
                refine (hownN b' (hnb b' hb') _ _).2 ⟨hb', fun ρ' _ e2 => ?_⟩
                simp only [List.cons.injEq, true_and] at e2
                exact ⟨(i, l), ρ, e2.symm, y, hci, hyo⟩
            | _ => simp [D.isOwn] at ho
          · refine Loc.ofV ?_
            rw [hvv]
            exact LocV.ofSolid (((hl.toV (by simpa using ho)).solid hsol).mono (fun _ hb => hb) himmS) hsol (by simpa using ho)


def setL : List D → Nat → List D → List D
  | row, _, [] => row
  | row, l, d :: r => setL (row.set l d) (l + 1) r

theorem setL_length : ∀ (ds row : List D) (l : Nat), (setL row l ds).length = row.length
  | [], _, _ => rfl
  | d :: r, row, l => by rw [setL, setL_length r, List.length_set]

theorem setL_out : ∀ (ds row : List D) (l j : Nat), (j < l ∨ l + ds.length ≤ j) → (setL row l ds)[j]? = row[j]?
  | [], _, _, _, _ => rfl
  | d :: r, row, l, j, h => by
    simp only [List.length_cons] at h
    rw [setL, setL_out r _ _ _ (by omega), List.getElem?_set_ne (by omega)]

theorem setL_in : ∀ (ds row : List D) (l m : Nat), l + ds.length ≤ row.length → m < ds.length → (setL row l ds)[l + m]? = ds[m]?
  | [], _, _, m, _, h => by simp at h
  | d :: r, row, l, 0, h, _ => by
    simp only [List.length_cons] at h
    rw [setL, setL_out r _ _ _ (by omega)]
    have : l < row.length := by omega
    simp [this]
  | d :: r, row, l, m + 1, h, hm => by
    simp only [List.length_cons] at h hm
    rw [setL, show l + (m + 1) = l + 1 + m by omega, setL_in r _ _ _ (by simp; omega) (by omega)]
    simp

/-- Cells of one element of an owned slice are written. -/
theorem R.setElem {G : Gh} {σ : St} {a : Act} {w : World} (h : R G σ a w) {p : Pl} {k j sz : Nat} {rows : List (List D)} (hcell : cellIn (σ.rows p) (k, j) = some (.sl true sz rows))
    {i : Nat} {row : List D} (hr : rows[i]? = some row) {l : Nat} {ds : List D} {us : List Value} (hl : l + ds.length ≤ sz) (hul : us.length = ds.length)
    (hd : ∀ (m : Nat) x, ds[m]? = some x → ∃ u, us[m]? = some u ∧ RO G.imm w x u ∧ x.solid = true ∧ x.isOwn = false)
    {b o n c : Nat} (hv : G.val p [(k, j)] = .slice (some ⟨b, o, Option.none⟩) n c) :
    ∃ G', R G' ((σ.setTop p k j (.sl true sz (rows.set i (setL row l ds)))).bumpC p k j) a (w.setCells b (o + i * sz + l) us) ∧ Kp [p] G w G' (w.setCells b (o + i * sz + l) us) ∧ G'.imm = G.imm ∧ G'.blk = G.blk ∧ (∀ q kj, G'.val q [kj] = G.val q [kj]) := by
  classical
  have hloc : LocOwn G w p [(k, j)] sz rows := h.loc p [(k, j)] (.sl true sz rows) (by simp [St.cell, hcell, D.atU])
  have hi := (List.getElem?_eq_some_iff.1 hr).1
  rcases hloc with ⟨e, _⟩ | ⟨b', o', c', e1, e2, e3, e4, e5⟩
  · rw [e] at hi; simp at hi
  rw [hv] at e1
  simp only [Value.slice.injEq, Option.some.injEq, Addr.mk.injEq, and_true] at e1
  obtain ⟨⟨rfl, rfl⟩, rfl, rfl⟩ := e1
  have hrl := (e5 i row hr).1
  have hbi : ¬ G.imm b := fun hb => by have := h.immOwn b hb; rw [e3] at this; cases this
  have hbl := h.ownLt b _ e3
  have hheap : ∀ b', b' ≠ b → (w.setCells b (o + i * sz + l) us).heap[b']? = w.heap[b']? := by
    intro b' hb'
    have : ∀ (us : List Value) (x : Nat) (w : World), (w.setCells b x us).heap[b']? = w.heap[b']? := by
      intro us
      induction us with
      | nil => intro x w; rfl
      | cons u us ih => intro x w; rw [World.setCells, ih]; exact Below.heap_setCell w _ u b' hb'
    exact this us _ w
  have hsize : (w.setCells b (o + i * sz + l) us).heap.size = w.heap.size := by
    have : ∀ (us : List Value) (x : Nat) (w : World), (w.setCells b x us).heap.size = w.heap.size := by
      intro us
      induction us with
      | nil => intro x w; rfl
      | cons u us ih => intro x w; rw [World.setCells, ih]; simp
    exact this us _ w
  have hmul : ∀ x y m, x < y → m < sz → x * sz + m < y * sz := fun x y m hxy hm => by
    have h1 : (x + 1) * sz ≤ y * sz := Nat.mul_le_mul_right sz (by omega)
    have h2 : (x + 1) * sz = x * sz + sz := Nat.succ_mul x sz
    omega
  let g : Nat → Nat → Value := fun i' l' => if i' = i ∧ l ≤ l' ∧ l' < l + ds.length then us.getD (l' - l) undef else G.val p [(k, j), (i', l')]
  have hin : ∀ m, m < us.length → (w.setCells b (o + i * sz + l) us).cell? ⟨b, o + i * sz + l + m, Option.none⟩ = some (us.getD m undef) := fun m hm => by
    rw [World.cell?_setCells_in b us _ w (fun x hx => ?_) m hm]
    · simp [List.getD, List.getElem?_eq_getElem hm]
    · have h1 := (e4 (i * sz + (l + x)) (hmul i c (l + x) (by omega) (by omega))).1
      rwa [show o + (i * sz + (l + x)) = o + i * sz + l + x by omega] at h1
  have hout : ∀ x : Addr, (x.block = b → x.spot = Option.none → x.off < o + i * sz + l ∨ o + i * sz + l + us.length ≤ x.off) → (w.setCells b (o + i * sz + l) us).cell? x = w.cell? x := fun x hx => World.cell?_setCells_out b us _ w x hx
  have h1 := h.setOwnC (p := p) (k := k) (j := j) (sz := sz) (rows0 := rows) (rows := rows.set i (setL row l ds)) (b := b) (o := o) (c := c) (v := G.val p [(k, j)]) (g := g) (w' := w.setCells b (o + i * sz + l) us) (a' := a)
    hcell rfl rfl rfl (fun i' hi' => (SVrel_congr fun k' j' => by
      by_cases e : p = .s i' ∧ (k', j') = (k, j)
      · rw [if_pos e, ← e.1, e.2]
      · rw [if_neg e]).2 (h.slots i' hi')) (.inr e3) hbi (by rw [hsize]; exact hbl) (by rw [hsize]; exact Nat.le_refl _) (fun b' hb' _ => SameAt.of_heap (hheap b' hb'))
    (by rw [hv]; simp) (by simp; exact e2) (World.there_setCells e4 b _ us) ?_ ?_ ?_
  · refine ⟨_, h1, ⟨?_, ?_, ?_, by rw [hsize]; exact Nat.le_refl _, fun b' hb' h0 => ?_, fun b' q π hq h0 => ?_, fun _ hb => hb, fun _ hb => .inl hb⟩, rfl, rfl, fun q kj => ?_⟩
    · have : ∀ (us : List Value) (x : Nat) (w : World), (w.setCells b x us).os = w.os := by
        intro us
        induction us with
        | nil => intro x w; rfl
        | cons u us ih => intro x w; rw [World.setCells, ih]; rfl
      exact this us _ w
    · have : ∀ (us : List Value) (x : Nat) (w : World), (w.setCells b x us).tape = w.tape := by
        intro us
        induction us with
        | nil => intro x w; rfl
        | cons u us ih => intro x w; rw [World.setCells, ih]; rfl
      exact this us _ w
    · have : ∀ (us : List Value) (x : Nat) (w : World), (w.setCells b x us).output = w.output := by
        intro us
        induction us with
        | nil => intro x w; rfl
        | cons u us ih => intro x w; rw [World.setCells, ih]; rfl
      exact this us _ w
    · have hb : b' ≠ b := fun e => by rw [e, e3] at h0; cases h0
      exact ⟨hheap b' hb, by simp [Gh.setOwn, hb, h0]⟩
    · have hb : b' ≠ b := fun e => by rw [e, e3] at h0; simp only [Option.some.injEq, Prod.mk.injEq] at h0; exact hq (by simp [h0.1])
      refine ⟨hheap b' hb, ?_⟩
      have hu : under p k j (q, π) = Option.none := under_none.2 fun e => absurd (by simp [e]) hq
      simp [Gh.setOwn, hb, h0, hu]
    · simp only [Gh.setOwn]
      cases hu : under p k j (q, [kj]) with
      | none => rfl
      | some ρ =>
        obtain ⟨rfl, e⟩ := under_some.1 hu
        simp only [List.cons.injEq] at e
        rw [← e.2]
        show G.val q [(k, j)] = G.val q [kj]
        rw [e.1]
  · intro i' row' hr'
    by_cases hii : i' = i
    · subst hii
      rw [List.getElem?_set_self hi] at hr'
      simp only [Option.some.injEq] at hr'; subst hr'
      refine ⟨by rw [setL_length]; exact hrl, fun l' hl' => ?_⟩
      by_cases hc : l ≤ l' ∧ l' < l + ds.length
      · have h2 := hin (l' - l) (by omega)
        rw [show o + i' * sz + l + (l' - l) = o + i' * sz + l' by omega] at h2
        rw [h2]
        show _ = some (if _ then _ else _)
        rw [if_pos ⟨rfl, hc⟩]
      · rw [hout _ (fun _ _ => by show o + i' * sz + l' < _ ∨ _ ≤ o + i' * sz + l'; omega), (e5 i' row hr).2 l' hl']
        show _ = some (if _ then _ else _)
        rw [if_neg (fun e => hc e.2)]; rfl
    · rw [List.getElem?_set_ne (Ne.symm hii)] at hr'
      refine ⟨(e5 i' row' hr').1, fun l' hl' => ?_⟩
      have hap : o + i' * sz + l' < o + i * sz + l ∨ o + i * sz + l + us.length ≤ o + i' * sz + l' := by
        rcases Nat.lt_or_gt_of_ne hii with h2 | h2
        · have := hmul i' i l' h2 hl'; left; omega
        · have := hmul i i' (l + ds.length - 1) h2
          by_cases h0 : ds.length = 0
          · have h3 := hmul i i' 0 h2 (by omega); right; omega
          · have h3 := this (by omega); right; omega
      rw [hout _ (fun _ _ => hap), (e5 i' row' hr').2 l' hl']
      show _ = some (if _ then _ else _)
      rw [if_neg (fun e => hii e.1)]; rfl
  · intro i' l' x hx
    obtain ⟨row', hr', hx'⟩ := cellIn_some.1 hx
    have hold : ∀ y, cellIn rows (i', l') = some y → σ.cell p [(k, j), (i', l')] = some y := fun y hy => by
      simp [St.cell, hcell, D.atU, hy]
    by_cases hii : i' = i
    · subst hii
      rw [List.getElem?_set_self hi] at hr'
      simp only [Option.some.injEq] at hr'; subst hr'
      by_cases hc : l ≤ l' ∧ l' < l + ds.length
      · left
        have h2 := setL_in ds row l (l' - l) (by omega) (by omega)
        rw [show l + (l' - l) = l' by omega] at h2
        rw [h2] at hx'
        obtain ⟨u, q1, q2, q3, q4⟩ := hd _ x hx'
        refine ⟨?_, q3, q4⟩
        show RO G.imm w x (if _ then _ else _)
        rw [if_pos ⟨rfl, hc⟩]
        simp [List.getD, q1]; exact q2
      · right
        rw [setL_out ds row l l' (by omega)] at hx'
        refine ⟨hold x (cellIn_some.2 ⟨row, hr, hx'⟩), ?_⟩
        show (if _ then _ else _) = _
        rw [if_neg (fun e => hc e.2)]
    · right
      rw [List.getElem?_set_ne (Ne.symm hii)] at hr'
      refine ⟨hold x (cellIn_some.2 ⟨row', hr', hx'⟩), ?_⟩
      show (if _ then _ else _) = _
      rw [if_neg (fun e => hii e.1)]
  · intro i' es e hvr
    obtain ⟨g1, g2, g3⟩ := h.vars i' es hvr
    have hne : G.blk i' ≠ b := fun e' => by rw [e', e3] at g1; simp at g1
    refine ⟨World.there_setCells g2 b _ us, fun l' hl' => ?_⟩
    rw [hout _ (fun e' _ => absurd e' hne), g3 l' hl', ← e]
    by_cases e2 : (0, l') = (k, j)
    · rw [if_pos e2, e2]
    · rw [if_neg e2]

end Go.AI

/-
  The abstract interpreter, part Oa: structs compared.
-/
namespace Go.AI
open Go.RowKit

/-- The fields of a struct type whose values '==' compares part by part. -/
def structT (P : Program) (t : TypeId) : Option (List (Nat × TypeId)) := match P.underlying t with
  | some (.struct fs) => if P.stoodInHeld t = false ∧ P.eqGuardType P.depth t = false ∧ fs.toList.all (fun f => f.name != "_") = true then some (fs.toList.map fun f => (f.offset, f.type)) else Option.none
  | _ => Option.none

def eqCell (P : Program) (t : TypeId) : Value → Value → Option Bool
  | .int k a, .int k' b => if k = k' ∧ kindOf P t = some k then some (decide (a = b)) else Option.none
  | .bool a, .bool b => if isBoolT P t = true then some (decide (a = b)) else Option.none
  | .string a, .string b => if isStringT P t = true then some (decide (a = b)) else Option.none
  | _, _ => Option.none

def eqCellsS (P : Program) (ds es : List D) : List (Nat × TypeId) → Option Bool
  | [] => some true
  | (off, t) :: r => match ds[off]?, es[off]? with
    | some (.lit u), some (.lit v) => match eqCell P t u v, eqCellsS P ds es r with
      | some b, some c => some (b && c)
      | _, _ => Option.none
    | _, _ => Option.none

def eqOpS (op : BinOp) (b : Bool) : Option SV := match op with
  | .eql => some (.one (.lit (.bool b)))
  | .neq => some (.one (.lit (.bool (!b))))
  | _ => Option.none

def eqAggS (P : Program) (σ : St) (op : BinOp) (t : TypeId) (x y : Operand) : Option SV :=
  match σ.rd x, σ.rd y, structT P t with
  | .agg ds, .agg es, some fs => match eqCellsS P ds es fs with
    | some b => eqOpS op b
    | Option.none => Option.none
  | _, _, _ => Option.none

section
variable {P : Program} {G : Gh} {σ : St} {a : Act} {w : World} {o : Oper}

theorem isBoolT_spec {t : TypeId} (h : isBoolT P t = true) : P.underlying t = some .bool := by
  unfold isBoolT at h
  split at h
  · assumption
  · cases h

theorem isStringT_spec' {t : TypeId} (h : isStringT P t = true) : P.underlying t = some .string := by
  unfold isStringT at h
  split at h
  · assumption
  · cases h

theorem eqCell_run {t : TypeId} {u v : Value} {b : Bool} (h : eqCell P t u v = some b) (d : Nat) (w : World) : P.plainKey t = true ∧ (Op.equalIn (d + 1) t u v).run P w = .ok b w := by
  unfold eqCell at h
  split at h
  · next k x k' y =>
    split at h
    · next hc =>
      simp only [Option.some.injEq] at h; subst h
      obtain ⟨rfl, hk⟩ := hc
      have hu := kindOf_spec hk
      exact ⟨by simp [Program.plainKey, hu], by rw [run_equalIn_int w d t k k x y hu]; simp [BEq.beq]⟩
    · cases h
  · next x y =>
    split at h
    · next hc =>
      simp only [Option.some.injEq] at h; subst h
      have hu := isBoolT_spec hc
      exact ⟨by simp [Program.plainKey, hu], by rw [run_equalIn_bool w d t x y hu]; cases x <;> cases y <;> rfl⟩
    · cases h
  · next x y =>
    split at h
    · next hc =>
      simp only [Option.some.injEq] at h; subst h
      have hu := isStringT_spec' hc
      refine ⟨by simp [Program.plainKey, hu], ?_⟩
      rw [run_equalIn_string w d t x y hu]
      by_cases e : x = y
      · subst e; simp
      · have : x.toList ≠ y.toList := fun h => e (by
          rw [ByteArray.toList_eq, ByteArray.toList_eq] at h
          obtain ⟨⟨x⟩⟩ := x
          obtain ⟨⟨y⟩⟩ := y
          simp at h; rw [h])
        simp [e, this]
    · cases h
  · cases h

theorem eqFields_run {us vs : List Value} {ds es : List D} (h1 : ∀ (j : Nat) x, ds[j]? = some (.lit x) → us[j]? = some x) (h2 : ∀ (j : Nat) x, es[j]? = some (.lit x) → vs[j]? = some x) (d : Nat) (w : World) :
    ∀ (fs : List Field) (b : Bool), (∀ f ∈ fs, f.name ≠ "_") → eqCellsS P ds es (fs.map fun f => (f.offset, f.type)) = some b → (Op.eqFields (d + 1) us.toArray vs.toArray fs).run P w = .ok b w
  | [], b, _, h => by
    simp [eqCellsS] at h; subst h
    simp [Op.eqFields]
  | f :: fs, b, hn, h => by
    simp only [List.map_cons, eqCellsS] at h
    split at h
    · next u v hu hv =>
      split at h
      · next b1 c hb hc =>
        simp only [Option.some.injEq] at h; subst h
        obtain ⟨k1, k2⟩ := eqCell_run hb d w
        have p1 : (part f.type us.toArray f.offset).run P w = .ok u w := run_part_plain (w := w) k1 (by simpa using h1 _ _ hu)
        have p2 : (part f.type vs.toArray f.offset).run P w = .ok v w := run_part_plain (w := w) k1 (by simpa using h2 _ _ hv)
        have ih := eqFields_run h1 h2 d w fs c (fun g hg => hn g (by simp [hg])) hc
        have hn1 : f.name ≠ "_" := hn f (by simp)
        simp only [Op.eqFields, hn1, ne_eq, not_false_eq_true, if_true, Sem.run_bind, p1, p2, k2, Result.andThen_ok]
        cases b1
        · simp
        · simpa using ih
      · cases h
    · cases h

theorem aggOf (h : R G σ a w) {x : Operand} {ds : List D} (hr : σ.rd x = .agg ds) : ∃ us : List Value, a.eval x = .agg us.toArray ∧ ∀ (j : Nat) u, ds[j]? = some (.lit u) → us[j]? = some u := by
  have hv := h.rd x
  rw [hr] at hv
  obtain ⟨us, h1, _, h3⟩ := tells_agg_iff.1 hv
  refine ⟨us, h1, fun j u hu => ?_⟩
  obtain ⟨v, h4, h5, _⟩ := h3 j _ hu
  rw [h4, RO.lit.1 h5]

theorem eqAgg_gives (h : R G σ a w) {op : BinOp} {t u : TypeId} {x y : Operand} (ho : o.op = .binOp op t x y u) {sv : SV} (hs : eqAggS P σ op t x y = some sv) : Gives P G σ a w o sv := by
  unfold eqAggS at hs
  split at hs
  · next ds es fs hx hy hst =>
    split at hs
    · next b hb =>
      obtain ⟨us, e1, q1⟩ := aggOf h hx
      obtain ⟨vs, e2, q2⟩ := aggOf h hy
      unfold structT at hst
      split at hst
      · next fs' hu =>
        split at hst
        · next hc =>
          obtain ⟨c1, c2, c3⟩ := hc
          simp only [Option.some.injEq] at hst; subst hst
          have hn : ∀ f ∈ fs'.toList, f.name ≠ "_" := fun f hf => by
            have := List.all_eq_true.1 c3 f hf
            simpa using this
          have hfs : P.fieldsOf t = fs' := by simp [Program.fieldsOf, hu]
          have heq : ∀ w', (Op.equal t (.agg us.toArray) (.agg vs.toArray)).run P w' = .ok b w' := fun w' => by
            show (Op.equalIn (9999 + 1) t _ _).run P w' = _
            rw [run_equalIn_struct w' 9999 t us.toArray vs.toArray (by rw [hfs]; exact hu) c1, hfs]
            exact eqFields_run q1 q2 9998 w' fs'.toList b hn hb
          unfold eqOpS at hs
          split at hs
          · simp only [Option.some.injEq] at hs; subst hs
            refine gives_const (fun w' => ?_) tells_lit
            simp only [execOp, ho, e1, e2]
            refine run_v ?_
            simp [eqGuard, binOp, heq, c2]
          · simp only [Option.some.injEq] at hs; subst hs
            refine gives_const (fun w' => ?_) tells_lit
            simp only [execOp, ho, e1, e2]
            refine run_v ?_
            simp [eqGuard, binOp, heq, c2]
          · cases hs
        · cases hst
      · cases hst
    · cases hs
  · cases hs
end
end Go.AI

/-
  The abstract interpreter, part P: struct values; all operations that only read; stores.
-/
namespace Go.AI
open Go.RowKit

def D.okc (σ : St) : D → Bool
  | .lit v => v.oneCell'
  | .addr p π i j n => σ.okAddr p π i j n
  | .dead => false
  | .clo _ _ => true
  | .raddr _ => true
  | .sl true _ _ => false
  | .sl false _ _ => true
  | .nil => true
  | .bor p π n rg => (σ.rowsOf (.bor p π n rg)).isSome

section
variable {P : Program} {G : Gh} {σ : St} {a : Act} {w : World} {o : Oper}

theorem okc_one (h : R G σ a w) {d : D} {u : Value} (hv : LocV G w σ u d) (hk : d.okc σ = true) : u.oneCell' = true := by
  cases d with
  | lit v =>
    have := RO.lit.1 (show RO G.imm w _ _ from hv)
    subst this; exact hk
  | addr p π i j n =>
    obtain ⟨row, b, o', _, _, h3, _⟩ := h.okAddr hk hv
    rw [h3]; rfl
  | dead => cases hk
  | clo f caps =>
    obtain ⟨f', h1, h2⟩ := (show RO G.imm w (.clo f caps) u from hv)
    rw [← h1, show f' [] = _ from h2 [] _ rfl]; rfl
  | raddr row =>
    obtain ⟨b, o', h3, _⟩ := raddr_iff.1 (show RO G.imm w (.raddr row) u from hv)
    rw [h3]; rfl
  | sl u' sz rows =>
    cases u' with
    | true => cases hk
    | false => obtain ⟨A, c, h1, _⟩ := roslice (show RO G.imm w _ _ from hv); rw [h1]; rfl
  | nil =>
    obtain ⟨f', h1, h2⟩ := (show RO G.imm w .nil u from hv)
    rw [← h1, show f' [] = _ from h2 [] _ rfl]; rfl
  | bor p π n rg =>
    obtain ⟨rows, hr⟩ := Option.isSome_iff_exists.1 hk
    obtain ⟨A, c, h1, _⟩ := rowsOf_val h hv hr
    rw [h1]; rfl

/-- The cells of a value that may be written. -/
def SV.toCells (σ : St) : SV → Option (List D)
  | .one d => if d.okc σ = true then some [d] else Option.none
  | .agg ds => if ds.all (·.okc σ) = true then some ds else Option.none
  | _ => Option.none

/-- The cells of values. -/
def Cs (G : Gh) (w : World) (σ : St) (vs : List Value) (ds : List D) : Prop :=
  vs.length = ds.length ∧ ∀ (j : Nat) x, ds[j]? = some x → ∃ u, vs[j]? = some u ∧ LocV G w σ u x ∧ x.refLt σ.tick

theorem toCells_spec (h : R G σ a w) {sv : SV} {v : Value} (ht : Tells G w σ sv v) {ds : List D} (hs : sv.toCells σ = some ds) :
    Cs G w σ v.cells.toList ds ∧ ∀ u ∈ v.cells.toList, u.oneCell' = true := by
  cases sv with
  | none => cases hs
  | tup cs => cases hs
  | one d =>
    simp only [SV.toCells] at hs
    split at hs
    · next hk =>
      simp only [Option.some.injEq] at hs; subst hs
      obtain ⟨h1, h2⟩ := tells_one_iff.1 ht
      have h3 := okc_one h h1 hk
      have h4 : v.cells = #[v] := by cases v <;> simp_all [Value.oneCell', Value.cells]
      rw [h4]
      refine ⟨⟨rfl, fun j x hx => ?_⟩, fun u hu => ?_⟩
      · cases j with
        | zero => simp at hx; subst hx; exact ⟨v, rfl, h1, h2⟩
        | succ j => simp at hx
      · simp at hu; subst hu; exact h3
    · cases hs
  | agg es =>
    simp only [SV.toCells] at hs
    split at hs
    · next hk =>
      simp only [Option.some.injEq] at hs; subst hs
      obtain ⟨cs, rfl, hl, hc⟩ := tells_agg_iff.1 ht
      refine ⟨⟨by simp [Value.cells, hl], fun j x hx => ?_⟩, fun u hu => ?_⟩
      · obtain ⟨u, h1, h2⟩ := hc j x hx
        exact ⟨u, by simpa [Value.cells] using h1, h2⟩
      · simp [Value.cells] at hu
        obtain ⟨j, hj, rfl⟩ := List.mem_iff_getElem.1 hu
        have hj' : j < es.length := by omega
        obtain ⟨u, h1, h2, _⟩ := hc j es[j] (by simp [hj'])
        rw [List.getElem?_eq_getElem hj] at h1
        simp only [Option.some.injEq] at h1
        rw [h1]
        exact okc_one h h2 (List.all_eq_true.1 hk _ (List.getElem_mem hj'))
    · cases hs

/-! ### Struct values -/
def placesOf (P : Program) (t : TypeId) : Option (List (Nat × Nat)) := match P.underlying t with
  | some (.struct fs) => fs.toList.mapM (fun f => (P.info? f.type).map fun i => (f.offset, i.size))
  | _ => Option.none

def partsOf (σ : St) : List (Nat × Operand) → Option (List (Nat × List D))
  | [] => some []
  | (i, x) :: r => match (σ.rd x).toCells σ, partsOf σ r with
    | some ds, some ps => some ((i, ds) :: ps)
    | _, _ => Option.none

def fillS (pl : List (Nat × Nat)) : List D → List (Nat × List D) → Option (List D)
  | zs, [] => some zs
  | zs, (i, ds) :: r => match pl[i]? with
    | some (off, size) => if ds.length = size ∧ off + size ≤ zs.length then fillS pl (setL zs off ds) r else Option.none
    | Option.none => Option.none

def buildS (P : Program) (σ : St) (t : TypeId) (parts : List (Nat × Operand)) : Option SV :=
  match tzero P t, placesOf P t, partsOf σ parts with
  | some zs, some pl, some ps => match fillS pl zs ps with
    | some ds => some (.agg ds)
    | Option.none => Option.none
  | _, _, _ => Option.none

theorem Cs.set {vs : List Value} {ds : List D} (h : Cs G w σ vs ds) {j : Nat} {u : Value} {x : D} (hx : LocV G w σ u x) (hr : x.refLt σ.tick) : Cs G w σ (vs.set j u) (ds.set j x) := by
  refine ⟨by simp [h.1], fun i y hy => ?_⟩
  by_cases e : j = i
  · subst e
    have hj := (List.getElem?_eq_some_iff.1 hy).1
    simp at hj
    rw [List.getElem?_set_self hj] at hy
    simp at hy; subst hy
    exact ⟨u, by rw [List.getElem?_set_self (by rw [h.1]; exact hj)], hx, hr⟩
  · rw [List.getElem?_set_ne e] at hy
    obtain ⟨u', h1, h2⟩ := h.2 i y hy
    exact ⟨u', by rw [List.getElem?_set_ne e]; exact h1, h2⟩

def setV : List Value → Nat → List Value → List Value
  | row, _, [] => row
  | row, l, d :: r => setV (row.set l d) (l + 1) r

theorem Cs.setL : ∀ (xs : List D) (us : List Value) {vs : List Value} {ds : List D} (h : Cs G w σ vs ds) (hx : Cs G w σ us xs) (l : Nat), Cs G w σ (setV vs l us) (setL ds l xs)
  | [], us, vs, ds, h, hx, l => by
    have : us = [] := by have := hx.1; cases us <;> simp_all
    subst this; exact h
  | x :: xs, us, vs, ds, h, hx, l => by
    cases us with
    | nil => have := hx.1; simp at this
    | cons u us =>
      obtain ⟨u', h1, h2, h3⟩ := hx.2 0 x rfl
      simp at h1; subst h1
      exact Cs.setL xs us (h.set (j := l) h2 h3) ⟨by have := hx.1; simpa using this, fun j y hy => by
        obtain ⟨v, q1, q2⟩ := hx.2 (j + 1) y (by simpa using hy)
        exact ⟨v, by simpa using q1, q2⟩⟩ (l + 1)

theorem fold_setV : ∀ (us : List Value) (n off : Nat) (cells : Array Value), ((us.zipIdx n).foldl (fun cs (p : Value × Nat) => cs.setIfInBounds (off + p.2) p.1) cells).toList = setV cells.toList (off + n) us
  | [], _, _, _ => rfl
  | u :: us, n, off, cells => by
    simp only [List.zipIdx_cons, List.foldl_cons, setV]
    rw [fold_setV us (n + 1) off]
    simp [Nat.add_assoc]

theorem fill_spec (pl : List (Nat × Nat)) : ∀ (ps : List (Nat × List D)) (vs : List (Nat × Value)) (zs : List D) (cells : Array Value), Cs G w σ cells.toList zs →
    ps.length = vs.length → (∀ (m : Nat) (i : Nat) ds, ps[m]? = some (i, ds) → ∃ v, vs[m]? = some (i, v) ∧ Cs G w σ v.cells.toList ds) →
    ∀ ds, fillS pl zs ps = some ds → ∃ cells', Instr.fill (pl.toArray[·]?) cells vs = some cells' ∧ Cs G w σ cells'.toList ds
  | [], vs, zs, cells, h, hl, hp, ds, hf => by
    have : vs = [] := by cases vs <;> simp_all
    subst this
    simp [fillS] at hf; subst hf
    exact ⟨cells, rfl, h⟩
  | (i, es) :: ps, vs, zs, cells, h, hl, hp, ds, hf => by
    cases vs with
    | nil => simp at hl
    | cons iv vs =>
      obtain ⟨v, h1, h2⟩ := hp 0 i es rfl
      simp at h1; subst h1
      simp only [fillS] at hf
      cases hpl : pl[i]? with
      | none => rw [hpl] at hf; cases hf
      | some os =>
        obtain ⟨off, size⟩ := os
        rw [hpl] at hf
        simp only at hf
        split at hf
        · next hc =>
          have hvl : v.cells.size = es.length := by have := h2.1; simpa using this
          have hcl : cells.size = zs.length := by have := h.1; simpa using this
          obtain ⟨cells', q1, q2⟩ := fill_spec pl ps vs (AI.setL zs off es) (v.cells.zipIdx.foldl (fun cs (p : Value × Nat) => cs.setIfInBounds (off + p.2) p.1) cells) (by
            rw [← Array.foldl_toList, Array.toList_zipIdx, fold_setV]
            exact h.setL es _ h2 _) (by simpa using hl) (fun m i' ds' hm => by
              obtain ⟨v', r1, r2⟩ := hp (m + 1) i' ds' (by simpa using hm)
              exact ⟨v', by simpa using r1, r2⟩) ds hf
          refine ⟨cells', ?_, q2⟩
          rw [Instr.fill]
          simp only [List.getElem?_toArray, hpl]
          rw [if_neg]
          · simpa using q1
          · simp; omega
        · cases hf

theorem partsOf_spec (h : R G σ a w) : ∀ (parts : List (Nat × Operand)) (ps : List (Nat × List D)), partsOf σ parts = some ps →
    ps.length = parts.length ∧ ∀ (m : Nat) (i : Nat) ds, ps[m]? = some (i, ds) → ∃ v, (parts.map fun (i, x) => (i, a.eval x))[m]? = some (i, v) ∧ Cs G w σ v.cells.toList ds ∧ ∀ u ∈ v.cells.toList, u.oneCell' = true
  | [], ps, hp => by simp [partsOf] at hp; subst hp; exact ⟨rfl, fun m i ds hm => by simp at hm⟩
  | (i, x) :: r, ps, hp => by
    simp only [partsOf] at hp
    split at hp
    · next ds ps' h1 h2 =>
      simp only [Option.some.injEq] at hp; subst hp
      obtain ⟨h3, h4⟩ := partsOf_spec h r ps' h2
      refine ⟨by simp [h3], fun m i' ds' hm => ?_⟩
      cases m with
      | zero => simp at hm; obtain ⟨rfl, rfl⟩ := hm; exact ⟨a.eval x, rfl, toCells_spec h (h.rd x) h1⟩
      | succ m =>
        simp at hm
        obtain ⟨v, q1, q2⟩ := h4 m i' ds' hm
        exact ⟨v, by simpa using q1, q2⟩
    · cases hp

theorem zeroCs {t : TypeId} {zs : List D} (hz : tzero P t = some zs) : ∃ i z, P.info? t = some i ∧ i.zero = some z ∧ Cs G w σ z.cells.toList zs := by
  obtain ⟨z, hz1, hz2⟩ := Option.bind_eq_some_iff.1 hz
  obtain ⟨i, hi, hz3⟩ := Option.bind_eq_some_iff.1 hz1
  obtain ⟨hl, hg⟩ := mapLit_spec hz2
  exact ⟨i, z, hi, hz3, by rw [hl], fun j x hx => by
    obtain ⟨u, h1, h2⟩ := hg j x hx
    exact ⟨u, h1, litD_spec h2 G w σ⟩⟩

theorem build_gives (h : R G σ a w) {t : TypeId} {parts : Array (Nat × Operand)} (ho : o.op = .build t parts) {sv : SV} (hs : buildS P σ t parts.toList = some sv) : Gives P G σ a w o sv := by
  unfold buildS at hs
  split at hs
  · next zs pl ps hz hpl hps =>
    split at hs
    · next ds hf =>
      simp only [Option.some.injEq] at hs; subst hs
      obtain ⟨i, z, hi, hz3, hcs⟩ := zeroCs (G := G) (w := w) (σ := σ) hz
      obtain ⟨p1, p2⟩ := partsOf_spec h _ ps hps
      unfold placesOf at hpl
      split at hpl
      · next fs hu =>
        obtain ⟨cells', q1, q2⟩ := fill_spec pl ps (parts.toList.map fun (i, x) => (i, a.eval x)) zs z.cells hcs (by simp [p1]) (fun m i ds hm => by
          obtain ⟨v, r1, r2, _⟩ := p2 m i ds hm
          exact ⟨v, r1, r2⟩) ds hf
        refine gives_const (v := .agg cells') (fun w' => ?_) (tells_agg_iff.2 ⟨cells'.toList, by simp, q2.1, q2.2⟩)
        simp only [execOp, ho]
        refine run_v (run_build w' t _ cells' ?_)
        unfold Program.built
        simp only [hi, hu, hz3, hpl]
        simpa using q1
      · cases hpl
    · cases hs
  · cases hs

/-! ### What an operation that only reads comes to -/
def maxS (σ : St) (x y : Operand) : Option SV :=
  match σ.rd x, σ.rd y with
  | .one (.lit (.int k n)), .one (.lit (.int k' m)) => if k = k' then some (.one (.lit (.int k (max n m)))) else Option.none
  | _, _ => Option.none

theorem max_gives (h : R G σ a w) {x y : Operand} {ts : Array TypeId} (ho : o.op = .call { callee := .builtin .max, args := #[x, y], argTypes := ts }) {sv : SV} (hs : maxS σ x y = some sv) : Gives P G σ a w o sv := by
  unfold maxS at hs
  split at hs
  · next k n k' m hx hy =>
    split at hs
    · next hk =>
      simp only [Option.some.injEq] at hs; subst hs; subst hk
      have hv := litOf h hx
      have hv2 := litOf h hy
      refine gives_const (fun w' => ?_) tells_lit
      rw [run_builtin ho]
      simp only [builtin]
      refine run_v ?_
      simp [hv, hv2, Go.Lib.run_max_ints]
    · cases hs
  · cases hs

def builtinS (P : Program) (σ : St) (b : Builtin) (xs : List Operand) (ts : List TypeId) : Option SV :=
  match b, xs, ts with
  | .len, [x], [t] => lenS P σ t x
  | .max, [x, y], _ => maxS σ x y
  | _, _, _ => Option.none

def rdS (P : Program) (σ : St) (o : Oper) : Option SV :=
  match o.op with
  | .move x => some (σ.rd x)
  | .assign x => some (σ.rd x)
  | .pick c x y => pickS σ c x y
  | .nilCheck x => nilCheckS σ x
  | .fieldAddr t x f => fieldAddrS P σ t x f
  | .indexAddr t x ix => indexAddrS P σ t x ix
  | .load t x => loadS P σ t x
  | .field t x f => fieldS P σ t x f
  | .extract x k => extractS σ x k
  | .index t x ix => indexS P σ t x ix
  | .convert s t x => convertS P σ s t x
  | .binOp op t x y _ => match binOpS P σ (fun _ _ _ => Option.none) op t x y with
    | some sv => some sv
    | Option.none => eqAggS P σ op t x y
  | .unOp op _ x => unOpS σ op x
  | .build t parts => buildS P σ t parts.toList
  | .call c => match c.callee with
    | .builtin b => builtinS P σ b c.args.toList c.argTypes.toList
    | _ => Option.none
  | _ => Option.none

theorem rdS_gives (h : R G σ a w) {sv : SV} (hs : rdS P σ o = some sv) : Gives P G σ a w o sv := by
  unfold rdS at hs
  split at hs
  · next x ho => simp only [Option.some.injEq] at hs; subst hs; exact move_gives h (.inl ho)
  · next x ho => simp only [Option.some.injEq] at hs; subst hs; exact move_gives h (.inr ho)
  · next c x y ho => exact pick_gives h ho hs
  · next x ho => exact nilCheck_gives h ho hs
  · next t x f ho => exact fieldAddr_gives h ho hs
  · next t x ix ho => exact indexAddr_gives h ho hs
  · next t x ho => exact load_gives h ho hs
  · next t x f ho => exact field_gives h ho hs
  · next x k ho => exact extract_gives h ho hs
  · next t x ix ho => exact index_gives h ho hs
  · next s t x ho => exact convert_gives h ho hs
  · next op t x y u ho =>
    split at hs
    · next sv' hsv =>
      simp only [Option.some.injEq] at hs; subst hs
      exact binOp_gives h ho hsv
    · exact eqAgg_gives h ho hs
  · next op t x ho => exact unOp_gives h ho hs
  · next t parts ho => exact build_gives h ho hs
  · next c ho =>
    split at hs
    · next b hb =>
      unfold builtinS at hs
      split at hs
      · next x t hx ht =>
        refine len_gives (t := t) (x := x) h ?_ hs
        rw [ho]
        obtain ⟨callee, args, argTypes⟩ := c
        simp only at hb hx ht
        subst hb
        congr 2
        · exact Array.toList_inj.1 (by simpa using hx)
        · exact Array.toList_inj.1 (by simpa using ht)
      · next x y hx =>
        refine max_gives (x := x) (y := y) (ts := c.argTypes) h ?_ hs
        rw [ho]
        obtain ⟨callee, args, argTypes⟩ := c
        simp only at hb hx
        subst hb
        congr 2
        exact Array.toList_inj.1 (by simpa using hx)
      · cases hs
    · cases hs
  · cases hs

end
end Go.AI

/-
  The abstract interpreter, part Q: values are put into slots; stores.
-/
namespace Go.AI
open Go.RowKit

/-- What an operation comes to: the world and the state behind it. -/
def Out (P : Program) (G : Gh) (σ : St) (a : Act) (w : World) (o : Oper) (σ' : St) (t : List Pl) : Prop :=
  ∃ x G' w', (execOp a.eval o).run P w = .ok x w' ∧ ((∃ v, x = .value v ∧ R G' σ' (a.put o.dst v) w') ∨ (x = .skip ∧ R G' σ' (a.put o.dst undef) w')) ∧ Kp t G w G' w' ∧ Fx σ σ' G G'

def SV.width : SV → Nat
  | .one _ => 1
  | .agg ds => ds.length
  | _ => 0

section
variable {P : Program} {G : Gh} {σ : St} {a : Act} {w : World} {o : Oper}

/-- Put, without ownership going over. -/
def putS (σ : St) (o : Oper) (sv : SV) : Option (St × List Pl) :=
  match o.dst with
  | some d => if d < σ.n then some (σ.put d sv, [.s d]) else Option.none
  | Option.none => some (σ, [])

theorem put_out (h : R G σ a w) {sv : SV} (hg : Gives P G σ a w o sv) {σ' : St} {t : List Pl} (hs : putS σ o sv = some (σ', t)) : Out P G σ a w o σ' t := by
  obtain ⟨v, h1, h2⟩ := hg
  unfold putS at hs
  split at hs
  · next d hd =>
    split at hs
    · next hn =>
      simp only [Option.some.injEq, Prod.mk.injEq] at hs; obtain ⟨rfl, rfl⟩ := hs
      obtain ⟨G', g1, g2, g3, g4, g5⟩ := h.putK hn h2
      exact ⟨_, G', w, h1 w (SameR.refl G w), .inl ⟨v, rfl, by rw [hd]; exact g1⟩, g2, g5⟩
    · cases hs
  · next hd =>
    simp only [Option.some.injEq, Prod.mk.injEq] at hs; obtain ⟨rfl, rfl⟩ := hs
    exact ⟨_, G, w, h1 w (SameR.refl G w), .inl ⟨v, rfl, by rw [hd]; exact h⟩, Kp.refl G w, Fx.refl σ G⟩

/-- Put, and what is on loan in the value's own cells goes over. -/
def assignS (σ : St) (d : Nat) (sv : SV) : Option (St × List Pl) :=
  if d < σ.n then some ((σ.put d sv).claims (.s d) 0 0 sv.width, .s d :: (σ.put d sv).claimsT (.s d) 0 0 sv.width) else Option.none

theorem assign_out (h : R G σ a w) {sv : SV} (hg : Gives P G σ a w o sv) {d : Nat} (hd : o.dst = some d) {σ' : St} {t : List Pl} (hs : assignS σ d sv = some (σ', t)) : Out P G σ a w o σ' t := by
  obtain ⟨v, h1, h2⟩ := hg
  unfold assignS at hs
  split at hs
  · next hn =>
    simp only [Option.some.injEq, Prod.mk.injEq] at hs; obtain ⟨rfl, rfl⟩ := hs
    obtain ⟨G1, g1, g2, g3, g4, g5⟩ := h.putK hn h2
    obtain ⟨G2, q1, q2, q3, q4⟩ := g1.claims (p := .s d) (k := 0) sv.width 0
    exact ⟨_, G2, w, h1 w (SameR.refl G w), .inl ⟨v, rfl, by rw [hd]; exact q1⟩, (g2.trans q2).mono (fun p hp => by simpa using hp), g5.trans q4⟩
  · cases hs

theorem setCells_frame (b : Nat) : ∀ (us : List Value) (x : Nat) (w : World), (∀ b', b' ≠ b → (w.setCells b x us).heap[b']? = w.heap[b']?) ∧ (w.setCells b x us).heap.size = w.heap.size
  | [], _, _ => ⟨fun _ _ => rfl, rfl⟩
  | u :: us, x, w => by
    obtain ⟨h1, h2⟩ := setCells_frame b us (x + 1) (w.setCell ⟨b, x, Option.none⟩ u)
    exact ⟨fun b' hb => by rw [World.setCells, h1 b' hb]; exact Below.heap_setCell w _ u b' hb, by rw [World.setCells, h2]; simp⟩

theorem setVar_vr {k : Nat} : ∀ (xs : List D) (j : Nat) (σ : St) (i : Nat) (b : Bool) (ds : List D), (σ.setVar k j xs).vr i = some (b, ds) → ∃ ds', σ.vr i = some (b, ds')
  | [], _, _, _, _, ds, h => ⟨ds, h⟩
  | x :: xs, j, σ, i, b, ds, h => by
    obtain ⟨d1, h1⟩ := setVar_vr xs (j + 1) _ i b ds h
    obtain ⟨d2, h2, _⟩ := setTop_vr (show (σ.setTop (.v k) 0 j x).vr i = some (b, d1) from h1)
    exact ⟨d2, h2⟩

theorem setVar_n {k : Nat} : ∀ (xs : List D) (j : Nat) (σ : St), (σ.setVar k j xs).n = σ.n
  | [], _, _ => rfl
  | x :: xs, j, σ => by rw [St.setVar, setVar_n xs]; exact setTop_n

/-- A datum that nobody changes from now on: what is on loan of a top cell is frozen first. -/
def D.solidify (σ : St) : D → Option (St × D × List Pl)
  | .bor q [(k, j)] n Option.none => if σ.sb q (k, j) = n then match cellIn (σ.rows q) (k, j) with
      | some (.sl true sz rows) => some (σ.freeze q k j, .sl false sz rows, [q])
      | _ => Option.none
    else Option.none
  | .lit v => some (σ, .lit v, [])
  | .nil => some (σ, .nil, [])
  | .sl false sz rows => some (σ, .sl false sz rows, [])
  | _ => Option.none

theorem freeze_carry (h : R G σ a w) {q : Pl} {k j sz : Nat} {rows : List (List D)} (hc : cellIn (σ.rows q) (k, j) = some (.sl true sz rows)) :
    ∃ G', R G' (σ.freeze q k j) a w ∧ Kp [q] G w G' w ∧ Fx σ (σ.freeze q k j) G G' ∧ G'.val = G.val ∧ (∀ u x, LocV G w σ u x → x.refLt σ.tick → LocV G' w (σ.freeze q k j) u x ∧ x.refLt (σ.freeze q k j).tick) ∧ (∀ b, G.imm b → G'.imm b) := by
  have e : σ.freeze q k j = (σ.setTop q k j (.sl false sz rows)).bump q k j := by simp [St.freeze, hc]
  rw [e]
  refine ⟨G.freeze q k j, h.freeze hc, ⟨rfl, rfl, rfl, Nat.le_refl _, fun b hb h0 => ⟨rfl, by simp [Gh.freeze, Gh.drop, h0]⟩, fun b x π hx h0 => ⟨rfl, Gh.drop_own.2 ⟨h0, fun e => absurd (by simp [e]) hx⟩⟩, fun b hb => .inl hb, fun b hb => ?_⟩, ?_, rfl, fun u x hx hr => ⟨?_, ?_⟩, fun b hb => .inl hb⟩
  · rcases hb with hb | ⟨ρ, hb⟩
    · exact .inl hb
    · exact .inr (.inr ⟨q, _, by simp, hb⟩)
  · refine Fx.of setTop_n (fun _ _ => rfl) (fun i _ ds' hd => ?_) (fun _ _ _ _ => rfl)
    obtain ⟨d1, e1, _⟩ := setTop_vr (show (σ.setTop q k j (.sl false sz rows)).vr i = some (false, ds') from hd)
    exact ⟨d1, e1⟩
  · exact top_carry (G := G) (G' := G.freeze q k j) rfl (fun _ _ _ => rfl) (fun b hb => Or.inl hb) (fun b _ => SameAt.refl w b) hx (fun q ρ n rg e => by rw [e] at hr; exact hr) (fun q ρ i l n e => by rw [e] at hr; exact hr)
  · rw [setTop_tick]
    cases x <;> first | trivial | exact Nat.lt_succ_of_lt hr

theorem solidify_spec (h : R G σ a w) {d : D} {u : Value} (hv : LocV G w σ u d) {σ' : St} {d' : D} {t : List Pl} (hs : d.solidify σ = some (σ', d', t)) :
    ∃ G', R G' σ' a w ∧ Kp t G w G' w ∧ Fx σ σ' G G' ∧ RO G'.imm w d' u ∧ d'.solid = true ∧ d'.isOwn = false ∧ (∀ v x, LocV G w σ v x → x.refLt σ.tick → LocV G' w σ' v x ∧ x.refLt σ'.tick) ∧ (∀ b, G.imm b → G'.imm b) := by
  unfold D.solidify at hs
  split at hs
  · next q k j n =>
    split at hs
    · next hn =>
      split at hs
      · next sz rows hc =>
        simp only [Option.some.injEq, Prod.mk.injEq] at hs; obtain ⟨rfl, rfl, rfl⟩ := hs
        obtain ⟨G', g1, g2, g3, g4, g5, g7⟩ := freeze_carry h hc
        have hcell : (σ.freeze q k j).cell q [(k, j)] = some (.sl false sz rows) := by
          have e : σ.freeze q k j = (σ.setTop q k j (.sl false sz rows)).bump q k j := by simp [St.freeze, hc]
          rw [e, bump_cell, setTop_cell_same (by rw [hc]; rfl)]; rfl
        have hro : RO G'.imm w (.sl false sz rows) (G'.val q [(k, j)]) := g1.loc q [(k, j)] _ hcell
        have hu : u = G.val q [(k, j)] := by
          have h1 := hv hn sz rows (by simp [St.cell, hc, D.atU])
          rw [h1]
          rcases (show LocOwn G w q [(k, j)] sz rows from h.loc q [(k, j)] (.sl true sz rows) (by simp [St.cell, hc, D.atU])) with ⟨_, e⟩ | ⟨b, o', c, e, _⟩ <;> rw [e] <;> rfl
        rw [g4, ← hu] at hro
        exact ⟨G', g1, g2, g3, hro, rfl, rfl, g5, g7⟩
      · cases hs
    · cases hs
  · next v =>
    simp only [Option.some.injEq, Prod.mk.injEq] at hs; obtain ⟨rfl, rfl, rfl⟩ := hs
    exact ⟨G, h, Kp.refl G w, Fx.refl σ G, hv, rfl, rfl, fun v x hx hr => ⟨hx, hr⟩, fun _ hb => hb⟩
  · simp only [Option.some.injEq, Prod.mk.injEq] at hs; obtain ⟨rfl, rfl, rfl⟩ := hs
    exact ⟨G, h, Kp.refl G w, Fx.refl σ G, hv, rfl, rfl, fun v x hx hr => ⟨hx, hr⟩, fun _ hb => hb⟩
  · next sz rows =>
    simp only [Option.some.injEq, Prod.mk.injEq] at hs; obtain ⟨rfl, rfl, rfl⟩ := hs
    exact ⟨G, h, Kp.refl G w, Fx.refl σ G, hv, rfl, rfl, fun v x hx hr => ⟨hx, hr⟩, fun _ hb => hb⟩
  · cases hs

def solidifyL (σ : St) : List D → Option (St × List D × List Pl)
  | [] => some (σ, [], [])
  | d :: r => match d.solidify σ with
    | some (σ1, d', t1) => match solidifyL σ1 r with
      | some (σ2, r', t2) => some (σ2, d' :: r', t1 ++ t2)
      | Option.none => Option.none
    | Option.none => Option.none

theorem solidifyL_spec {a : Act} {w : World} : ∀ (ds : List D) (vs : List Value) {G : Gh} {σ : St} (h : R G σ a w), Cs G w σ vs ds → ∀ σ' ds' t, solidifyL σ ds = some (σ', ds', t) →
    ∃ G', R G' σ' a w ∧ Kp t G w G' w ∧ Fx σ σ' G G' ∧ ds'.length = ds.length ∧ (∀ (m : Nat) x, ds'[m]? = some x → ∃ u, vs[m]? = some u ∧ RO G'.imm w x u ∧ x.solid = true ∧ x.isOwn = false) ∧
      (∀ v x, LocV G w σ v x → x.refLt σ.tick → LocV G' w σ' v x ∧ x.refLt σ'.tick) ∧ (∀ b, G.imm b → G'.imm b)
  | [], vs, G, σ, h, hc, σ', ds', t, hs => by
    simp only [solidifyL, Option.some.injEq, Prod.mk.injEq] at hs; obtain ⟨rfl, rfl, rfl⟩ := hs
    exact ⟨G, h, Kp.refl G w, Fx.refl σ G, rfl, fun m x hx => by simp at hx, fun v x hx hr => ⟨hx, hr⟩, fun _ hb => hb⟩
  | d :: r, vs, G, σ, h, hc, σ', ds', t, hs => by
    simp only [solidifyL] at hs
    split at hs
    · next σ1 d' t1 h1 =>
      split at hs
      · next σ2 r' t2 h2 =>
        simp only [Option.some.injEq, Prod.mk.injEq] at hs; obtain ⟨rfl, rfl, rfl⟩ := hs
        cases vs with
        | nil => have := hc.1; simp at this
        | cons v vs =>
          obtain ⟨u, q1, q2, q3⟩ := hc.2 0 d rfl
          simp at q1; subst q1
          obtain ⟨G1, g1, g2, g3, g4, g5, g6, g7, g8⟩ := solidify_spec h q2 h1
          obtain ⟨G2, k1, k2, k3, k4, k5, k6, k7⟩ := solidifyL_spec r vs g1 ⟨by have := hc.1; simpa using this, fun j x hx => by
            obtain ⟨u, r1, r2, r3⟩ := hc.2 (j + 1) x (by simpa using hx)
            exact ⟨u, by simpa using r1, g7 u x r2 r3⟩⟩ _ _ _ h2
          refine ⟨G2, k1, g2.trans k2, g3.trans k3, by simp [k4], fun m x hx => ?_, fun u x hx hr => ?_, fun b hb => k7 b (g8 b hb)⟩
          · cases m with
            | zero => simp at hx; subst hx; exact ⟨v, rfl, g4.mono k7 (fun b _ => SameAt.refl w b), g5, g6⟩
            | succ m =>
              simp at hx
              obtain ⟨u, r1, r2⟩ := k5 m x hx
              exact ⟨u, by simpa using r1, r2⟩
          · obtain ⟨r1, r2⟩ := g7 u x hx hr
            exact k6 u x r1 r2
      · cases hs
    · cases hs

/-! ### Stores -/
def storeS (P : Program) (σ : St) (t : TypeId) (x y : Operand) : Option (St × List Pl) :=
  match σ.rd x, (σ.rd y).toCells σ, tsz P t with
  | .one (.addr (.v k) [] 0 j n), some ds, some m => if σ.okAddr (.v k) [] 0 j n = true ∧ m = ds.length then match σ.vr k with
      | some (true, es) => if j + ds.length ≤ es.length then
          some ((σ.setVar k j ds).claims (.v k) 0 j ds.length, .v k :: (σ.setVar k j ds).claimsT (.v k) 0 j ds.length) else Option.none
      | _ => Option.none
    else Option.none
  | .one (.addr p [(k, j)] i l n), some ds, some m => if σ.sb p (k, j) = n ∧ m = ds.length then match solidifyL σ ds with
      | some (σ1, ds1, t1) => match cellIn (σ1.rows p) (k, j) with
        | some (.sl true sz rows) => match rows[i]? with
          | some row => if l + ds.length ≤ sz ∧ σ1.sb p (k, j) = n then some ((σ1.setTop p k j (.sl true sz (rows.set i (setL row l ds1)))).bumpC p k j, t1 ++ [p]) else Option.none
          | Option.none => Option.none
        | _ => Option.none
      | Option.none => Option.none
    else Option.none
  | _, _, _ => Option.none

theorem storeVar_run {t : TypeId} {v : Value} {b o' : Nat} {w : World} (hs : tsz P t = some v.cells.size) (ht : w.there b o' v.cells.size) (h1 : ∀ u ∈ v.cells.toList, u.oneCell' = true) :
    (Instr.storeAt t (.pointer (some ⟨b, o', Option.none⟩)) v).run P w = .ok () (w.setCells b o' v.cells.toList) := by
  have := run_storeCells_cells (P := P) b o' v.cells.toList 0 w (fun j hj => by simpa using (ht j (by simpa using hj)).1) (fun j hj => by simpa using (ht j (by simpa using hj)).2) h1
  simp only [tsz, Option.map_eq_some_iff] at hs
  obtain ⟨i, hi, hsz⟩ := hs
  simp only [Nat.add_zero] at this
  simp [Instr.storeAt, Instr.sureAddr, storeVar, sizeOf, typeInfo, hi, hsz, this]

theorem store_out (h : R G σ a w) {t : TypeId} {x y : Operand} (ho : o.op = .store t x y) (hd : o.dst = Option.none) {σ' : St} {tt : List Pl} (hs : storeS P σ t x y = some (σ', tt)) : Out P G σ a w o σ' tt := by
  have hput : a.put o.dst undef = a := by rw [hd]; rfl
  unfold storeS at hs
  split at hs
  · next k j n ds m hx hy hm =>
    split at hs
    · next hc =>
      obtain ⟨hk, rfl⟩ := hc
      split at hs
      · next es hvr =>
        split at hs
        · next hle =>
          simp only [Option.some.injEq, Prod.mk.injEq] at hs; obtain ⟨rfl, rfl⟩ := hs
          have hxv := h.rd x
          rw [hx] at hxv
          obtain ⟨row, b, o', h1, h2, h3, h4, h5, h6⟩ := h.okAddr hk (tells_one_iff.1 hxv).1
          obtain ⟨hcs, hone⟩ := toCells_spec h (h.rd y) hy
          obtain ⟨g1, g2, g3⟩ := h.vars k es hvr
          have hb : (⟨b, o' + j, Option.none⟩ : Addr) = ⟨G.blk k, j, Option.none⟩ := (h6 j _ ⟨k, es, rfl, hvr, rfl, rfl⟩).symm
          have hlen : (a.eval y).cells.size = ds.length := by have := hcs.1; simpa using this
          obtain ⟨G1, r1, r2, r3, r4, r5⟩ := h.setVar ds (a.eval y).cells.toList j hvr hcs.1 hle hcs.2
          obtain ⟨G2, q1, q2, q3, q4⟩ := r1.claims (p := .v k) (k := 0) ds.length j
          refine ⟨.skip, G2, w.setCells (G.blk k) j (a.eval y).cells.toList, ?_, .inr ⟨rfl, by rw [hput]; exact q1⟩, (r2.trans q2).mono (fun p hp => by simpa using hp), Fx.trans ?_ q4⟩
          · simp only [execOp, ho, h3, hb]
            have := storeVar_run (P := P) (t := t) (v := a.eval y) (b := G.blk k) (o' := j) (w := w) (by rw [hlen]; exact hm) (fun l hl => ?_) hone
            · simp [this]
            · have := g2 (j + l) (by omega)
              rwa [Nat.zero_add] at this
          · refine Fx.of (setVar_n ds j σ) (fun i _ => by rw [r4]) (fun i _ ds' hd => setVar_vr ds j σ i _ _ hd) (fun i _ kj hf => r5 _ _ ?_)
            rintro e; cases e
            obtain ⟨ds', hf⟩ := hf
            rw [hvr] at hf; cases hf
        · cases hs
      · cases hs
    · cases hs
  · next p k j i l n ds m hx hy hm =>
    split at hs
    · next hc =>
      obtain ⟨hst, rfl⟩ := hc
      split at hs
      · next σ1 ds1 t1 hsol =>
        split at hs
        · next sz rows hcell =>
          split at hs
          · next row hrow =>
            split at hs
            · next hle =>
              obtain ⟨hle, hst1⟩ := hle
              simp only [Option.some.injEq, Prod.mk.injEq] at hs; obtain ⟨rfl, rfl⟩ := hs
              have hxv := h.rd x
              rw [hx] at hxv
              obtain ⟨hcs, hone⟩ := toCells_spec h (h.rd y) hy
              have hlen : (a.eval y).cells.size = ds.length := by have := hcs.1; simpa using this
              obtain ⟨G1, g1, g2, g3, g4, g5, g6, g7⟩ := solidifyL_spec ds _ h hcs _ _ _ hsol
              have hxl := (g6 _ _ (tells_one_iff.1 hxv).1 (tells_one_iff.1 hxv).2).1
              have hi := (List.getElem?_eq_some_iff.1 hrow).1
              rcases (show LocOwn G1 w p [(k, j)] sz rows from g1.loc p [(k, j)] (.sl true sz rows) (by simp [St.cell, hcell, D.atU])) with ⟨e, _⟩ | ⟨b, o', c, e1, e2, e3, e4, e5⟩
              · rw [e] at hi; simp at hi
              have hav : a.eval x = .pointer (some ⟨b, o' + i * sz + l, Option.none⟩) := hxl hst1 _ ⟨sz, rows, b, o', _, c, by simp [St.cell, hcell, D.atU], e1, rfl⟩
              obtain ⟨G2, q1, q2, q3, q4, q5⟩ := g1.setElem hcell hrow (l := l) (ds := ds1) (us := (a.eval y).cells.toList) (by rw [g4]; exact hle) (by rw [g4]; simp [hlen]) g5 e1
              refine ⟨.skip, G2, _, ?_, .inr ⟨rfl, by rw [hput]; exact q1⟩, g2.trans q2, g3.trans ?_⟩
              · simp only [execOp, ho, hav]
                have := storeVar_run (P := P) (t := t) (v := a.eval y) (b := b) (o' := o' + i * sz + l) (w := w) (by rw [hlen]; exact hm) (fun m hm' => ?_) hone
                · simp [this]
                · have h1 : (i + 1) * sz ≤ c * sz := Nat.mul_le_mul_right sz (by omega)
                  have h2 : (i + 1) * sz = i * sz + sz := Nat.succ_mul i sz
                  have := e4 (i * sz + (l + m)) (by omega)
                  rwa [show o' + (i * sz + (l + m)) = o' + i * sz + l + m by omega] at this
              · refine Fx.of setTopC_n (fun i _ => by rw [q4]) (fun i _ ds' hd => ?_) (fun i _ kj _ => q5 _ _)
                obtain ⟨d1, e1, _⟩ := setTop_vr (show (σ1.setTop p k j _).vr i = some (false, ds') from hd)
                exact ⟨d1, e1⟩
            · cases hs
          · cases hs
        · cases hs
      · cases hs
    · cases hs
  · cases hs

end
end Go.AI

/-
  The abstract interpreter, part R: slots that get slices of their own: made, built, appended to.
-/
namespace Go.AI
open Go.RowKit

def St.own (σ : St) (d sz : Nat) (rows : List (List D)) : St := (σ.put d (.one (.sl true sz rows))).bump (.s d) 0 0

theorem own_eq {σ : St} {d sz : Nat} {rows : List (List D)} {x : D} : ((σ.put d (.one x)).setTop (.s d) 0 0 (.sl true sz rows)).bump (.s d) 0 0 = σ.own d sz rows := by
  have : (σ.put d (.one x)).setTop (.s d) 0 0 (.sl true sz rows) = σ.put d (.one (.sl true sz rows)) := by
    simp only [St.setTop, St.put]
    congr 1
    funext i
    by_cases e : i = d <;> simp [e, SV.set]
  rw [St.own, this]

/-- A block that is made: its rows. -/
def RowsIn (G : Gh) (w w' : World) (b o sz : Nat) (rows : List (List D)) : Prop :=
  ∀ (i : Nat) row, rows[i]? = some row → row.length = sz ∧ ∀ (l : Nat) x, row[l]? = some x → ∃ u, w'.cell? ⟨b, o + i * sz + l, Option.none⟩ = some u ∧ RO G.imm w x u ∧ x.solid = true ∧ x.isOwn = false

structure Grown (w w' : World) (b : Nat) : Prop where
  os : w'.os = w.os
  tape : w'.tape = w.tape
  output : w'.output = w.output
  size : w.heap.size ≤ w'.heap.size
  heap : ∀ b', b' ≠ b → b' < w.heap.size → w'.heap[b']? = w.heap[b']?

section
variable {P : Program} {G : Gh} {σ : St} {a : Act} {w : World} {o : Oper}

/-- What a slot is given, in a block of its own: fresh, or the one that it has. -/
theorem R.ownAt (h : R G σ a w) {d : Nat} (hd : d < σ.n) {x0 : D} (hs : σ.sl d = .one x0) {sz : Nat} {rows : List (List D)} {b o c : Nat} {v : Value} {w' : World} {g : Nat → Nat → Value}
    (hb : (G.own b = Option.none ∧ w.heap.size ≤ b) ∨ G.own b = some (.s d, [(0, 0)])) (hbi : ¬ G.imm b) (hbl : b < w'.heap.size) (hG : Grown w w' b)
    (hv : v = .slice (some ⟨b, o, Option.none⟩) rows.length c) (hc : rows.length ≤ c) (ht : w'.there b o (c * sz))
    (hcells : ∀ i row, rows[i]? = some row → row.length = sz ∧ ∀ l, l < sz → w'.cell? ⟨b, o + i * sz + l, Option.none⟩ = some (g i l))
    (hx : ∀ i l x, cellIn rows (i, l) = some x → (RO G.imm w x (g i l) ∧ x.solid = true ∧ x.isOwn = false) ∨
      (σ.cell (.s d) [(0, 0), (i, l)] = some x ∧ g i l = G.val (.s d) [(0, 0), (i, l)])) :
    ∃ G', R G' ((σ.setTop (.s d) 0 0 (.sl true sz rows)).bump (.s d) 0 0) (a.put (some d) v) w' ∧ Kp [.s d] G w G' w' ∧ Fx σ ((σ.setTop (.s d) 0 0 (.sl true sz rows)).bump (.s d) 0 0) G G' := by
  classical
  have hcell : (cellIn (σ.rows (.s d)) (0, 0)).isSome = true := by simp [St.rows, hs, SV.rows, cellIn]
  have hsz' : d < a.tmps.size := by rw [h.size]; exact hd
  have h1 := h.setOwn (p := .s d) (k := 0) (j := 0) (sz := sz) (rows := rows) (b := b) (o := o) (c := c) (v := v) (g := g) (w' := w') (a' := a.put (some d) v) hcell
    (by simp [Act.put]) rfl (fun i hi => ?_) (hb.imp And.left id) hbi hbl hG.size (fun b' h1 h2 => SameAt.of_heap (hG.heap b' h1 h2)) hv hc ht hcells hx (fun i ds e => by cases e)
  · refine ⟨_, h1, ⟨hG.os, hG.tape, hG.output, hG.size, fun b' hb' h0 => ?_, fun b' q π hq h0 => ?_, fun _ hb => hb, fun _ hb => .inl hb⟩, Fx.of setTop_n (fun _ _ => rfl) (fun i _ ds' hd' => ?_) (fun i _ kj _ => ?_)⟩
    · by_cases e : b' = b
      · subst e
        exfalso
        rcases hb with ⟨_, e⟩ | e
        · omega
        · rw [h0] at e; cases e
      · exact ⟨hG.heap b' e hb', by simp [Gh.setOwn, e, h0]⟩
    · have e : b' ≠ b := by
        rintro rfl
        rcases hb with ⟨e, _⟩ | e
        · rw [e] at h0; cases h0
        · rw [e] at h0; simp at h0; exact hq (by simp [h0.1])
      have hu : under (.s d) 0 0 (q, π) = Option.none := under_none.2 fun e => absurd (by simp [e]) hq
      exact ⟨hG.heap b' e (h.ownLt b' _ h0), by simp [Gh.setOwn, e, h0, hu]⟩
    · obtain ⟨d1, e1, _⟩ := setTop_vr (show (σ.setTop (.s d) 0 0 (.sl true sz rows)).vr i = some (false, ds') from hd')
      exact ⟨d1, e1⟩
    · have hu : under (.s d) 0 0 (.v i, [kj]) = Option.none := under_none.2 fun e => by cases e
      simp only [Gh.setOwn, hu]
  · by_cases e : i = d
    · subst e
      rw [hs]
      show (a.put (some i) v).tmps.getD i undef = _
      rw [show (a.put (some i) v).tmps = a.tmps.setIfInBounds i v from rfl, getD_set_same _ _ _ _ hsz']
      simp
    · have h0 := h.slots i hi
      rw [show (a.put (some d) v).tmps = a.tmps.setIfInBounds d v from rfl, getD_set_other _ _ _ _ _ (Ne.symm e)]
      refine (SVrel_congr fun k' j' => ?_).2 h0
      rw [if_neg]
      rintro ⟨e1, _⟩
      simp at e1
      exact e e1.symm

theorem run_v2 {s : Sem Value} {v : Value} {w w' : World} (h : s.run P w = .ok v w') : (do let x ← s; pure (Next.value x) : Sem Next).run P w = .ok (.value v) w' := by
  simp [h]

theorem put_put (a : Act) (d : Nat) (v u : Value) : (a.put (some d) v).put (some d) u = a.put (some d) u := by
  simp [Act.put]

/-- A slot is given a slice in a fresh block. -/
theorem R.ownNew (h : R G σ a w) {d : Nat} (hd : d < σ.n) {sz : Nat} {rows : List (List D)} {b o c : Nat} {v : Value} {w' : World}
    (hb : w.heap.size ≤ b) (hbl : b < w'.heap.size) (hG : Grown w w' b)
    (hv : v = .slice (some ⟨b, o, Option.none⟩) rows.length c) (hc : rows.length ≤ c) (ht : w'.there b o (c * sz)) (hr : RowsIn G w w' b o sz rows) :
    ∃ G', R G' (σ.own d sz rows) (a.put (some d) v) w' ∧ Kp [.s d] G w G' w' ∧ Fx σ (σ.own d sz rows) G G' := by
  have hown : G.own b = Option.none := by
    cases e : G.own b with
    | none => rfl
    | some q => have := h.ownLt b q e; omega
  obtain ⟨G1, g1, g2, g3, g4, g5⟩ := h.putK hd (sv := .one .dead) (v := v) (tells_one trivial trivial)
  have hown1 : G1.own b = Option.none := by
    cases e : G1.own b with
    | none => rfl
    | some q => have := g1.ownLt b q e; omega
  obtain ⟨G2, q1, q2, q3⟩ := g1.ownAt (d := d) hd (x0 := .dead) (by simp [St.put]) (sz := sz) (rows := rows) (b := b) (o := o) (c := c) (v := v) (w' := w')
    (g := fun i l => (w'.cell? ⟨b, o + i * sz + l, Option.none⟩).getD undef) (.inl ⟨hown1, hb⟩) (fun hi => by rw [g3] at hi; have := h.immLt b hi; omega) hbl hG hv hc ht
    (fun i row hrow => ⟨(hr i row hrow).1, fun l hl => by
      obtain ⟨q1, q2⟩ := hr i row hrow
      obtain ⟨u, q3, _⟩ := q2 l row[l] (by simp [q1, hl])
      rw [q3]; rfl⟩)
    (fun i l x hx => by
      obtain ⟨row, h1, h2⟩ := cellIn_some.1 hx
      obtain ⟨u, q3, q4, q5⟩ := (hr i row h1).2 l x h2
      left
      rw [q3, g3]
      exact ⟨q4, q5⟩)
  rw [own_eq] at q1 q3
  rw [put_put] at q1
  exact ⟨G2, q1, (g2.trans q2).mono (fun p hp => by simpa using hp), g5.trans q3⟩

theorem grown_alloc (w : World) (ob : Obj) : Grown w (w.alloc ob) w.heap.size :=
  ⟨rfl, rfl, rfl, by simp, fun b' _ hb => Below.heap_alloc w ob b' hb⟩

theorem grown_drew (w : World) (ob : Obj) : Grown w (w.drew.alloc ob) w.heap.size :=
  ⟨rfl, rfl, rfl, by simp, fun b' _ hb => Below.heap_alloc w.drew ob b' hb⟩

/-! ### makeSlice -/
def tbytes (P : Program) (t : TypeId) : Option Nat := (P.info? t).map (·.bytes)

def makeSliceS (P : Program) (σ : St) (t : TypeId) (x y : Operand) (d : Nat) : Option (St × List Pl) :=
  match tel P t, σ.rd x, σ.rd y with
  | some e, .one (.lit (.int _ l)), .one (.lit (.int _ c)) => match tzero P e, tsz P e, tbytes P e with
    | some zs, some sz, some by_ => if d < σ.n ∧ 0 ≤ l ∧ l ≤ c ∧ zs.length = sz ∧ (by_ : Int) * c ≤ 281474976710656 ∧ c ≤ 9223372036854775807 then
        some (σ.own d sz (List.replicate l.toNat zs), [.s d]) else Option.none
    | _, _, _ => Option.none
  | _, _, _ => Option.none

theorem litD_solid {v : Value} {d : D} (h : litD v = some d) : d.solid = true ∧ d.isOwn = false := by
  unfold litD at h
  split at h <;> simp at h <;> subst h <;> exact ⟨rfl, rfl⟩

theorem litD_ro {v : Value} {d : D} (h : litD v = some d) (imm : Nat → Prop) (w : World) : RO imm w d v := by
  unfold litD at h
  split at h <;> simp at h <;> subst h <;> first | exact RO.lit.2 rfl | exact RO.nilV

theorem there_new {w : World} {cs : Array Value} {e : TypeId} {n : Nat} (h : n ≤ cs.size) : (w.alloc (.cells cs e)).there w.heap.size 0 n := fun j hj => by
  rw [Nat.zero_add]
  refine ⟨?_, World.frozen?_alloc_new _ _ _ _⟩
  rw [World.cell?_alloc_new]
  simp; omega

theorem makeSlice_out (h : R G σ a w) {t : TypeId} {x y : Operand} (ho : o.op = .makeSlice t x y) {d : Nat} (hd : o.dst = some d) {σ' : St} {tt : List Pl} (hs : makeSliceS P σ t x y d = some (σ', tt)) : Out P G σ a w o σ' tt := by
  unfold makeSliceS at hs
  split at hs
  · next e kl l kc c he hx hy =>
    split at hs
    · next zs sz by_ hz hsz hby =>
      split at hs
      · next hc =>
        obtain ⟨hn, h0, hlc, hzl, hbs, h63⟩ := hc
        simp only [Option.some.injEq, Prod.mk.injEq] at hs; obtain ⟨rfl, rfl⟩ := hs
        have hxv := litOf h hx
        have hyv := litOf h hy
        obtain ⟨z, hz1, hz2⟩ := Option.bind_eq_some_iff.1 hz
        obtain ⟨i, hi, hz3⟩ := Option.bind_eq_some_iff.1 hz1
        obtain ⟨hl, hg⟩ := mapLit_spec hz2
        have hisz : i.size = sz := by simpa [tsz, hi] using hsz
        have hib : i.bytes = by_ := by simpa [tbytes, hi] using hby
        have hzc : z.cells.size = sz := by rw [← hzl, hl]; simp
        have hrun := run_make (P := P) w t e i z (tel_spec he) hi hz3 kl kc l c h0 hlc (by rw [hib]; exact hbs) h63
        rw [hisz] at hrun
        have hlc' : l.toNat ≤ c.toNat := by omega
        have hrows : RowsIn G w (w.alloc (.cells (madeCells z.cells (c.toNat * sz)) e)) w.heap.size 0 sz (List.replicate l.toNat zs) := by
          intro r row hrow
          have hr := (List.getElem?_eq_some_iff.1 hrow)
          obtain ⟨hr1, hr2⟩ := hr
          simp at hr1 hr2
          subst hr2
          refine ⟨hzl, fun m x hxm => ?_⟩
          have hm := (List.getElem?_eq_some_iff.1 hxm).1
          obtain ⟨u, q1, q2⟩ := hg m x hxm
          refine ⟨u, ?_, litD_ro q2 _ _, (litD_solid q2).1, (litD_solid q2).2⟩
          rw [World.cell?_alloc_new]
          have h1 : (r + 1) * sz ≤ c.toNat * sz := Nat.mul_le_mul_right sz (by omega)
          have h2 : (r + 1) * sz = r * sz + sz := Nat.succ_mul r sz
          have hlt : 0 + r * sz + m < c.toNat * sz := by omega
          have hmod : (0 + r * sz + m) % z.cells.size = m := by
            rw [hzc, Nat.zero_add, Nat.add_comm, Nat.add_mul_mod_self_right, Nat.mod_eq_of_lt (by omega)]
          have hq : z.cells[m]? = some u := by simpa using q1
          simp only [madeCells, Array.getElem?_map, Array.getElem?_range, hlt, if_true, Option.map_some, hmod]
          simp [getElem!_def, hq]
        obtain ⟨G', g1, g2, g3⟩ := h.ownNew (d := d) hn (sz := sz) (rows := List.replicate l.toNat zs) (b := w.heap.size) (o := 0) (c := c.toNat) (v := .slice (some ⟨w.heap.size, 0, Option.none⟩) l.toNat c.toNat)
          (w' := w.alloc (.cells (madeCells z.cells (c.toNat * sz)) e)) (Nat.le_refl _) (by simp) (grown_alloc w _) (by simp) (by simpa using hlc') (there_new (by rw [size_madeCells]; exact Nat.le_refl _)) hrows
        exact ⟨_, G', _, by simp only [execOp, ho, hxv, hyv]; exact run_v2 hrun, .inl ⟨_, rfl, by rw [hd]; exact g1⟩, g2, g3⟩
      · cases hs
    · cases hs
  · cases hs

end
end Go.AI

/-
  The abstract interpreter, part S: slice literals.
-/
namespace Go.AI
open Go.RowKit

theorem setV_length : ∀ (ds row : List Value) (l : Nat), (setV row l ds).length = row.length
  | [], _, _ => rfl
  | d :: r, row, l => by rw [setV, setV_length r, List.length_set]

theorem setV_out : ∀ (ds row : List Value) (l j : Nat), (j < l ∨ l + ds.length ≤ j) → (setV row l ds)[j]? = row[j]?
  | [], _, _, _, _ => rfl
  | d :: r, row, l, j, h => by
    simp only [List.length_cons] at h
    rw [setV, setV_out r _ _ _ (by omega), List.getElem?_set_ne (by omega)]

theorem setV_in : ∀ (ds row : List Value) (l m : Nat), l + ds.length ≤ row.length → m < ds.length → (setV row l ds)[l + m]? = ds[m]?
  | [], _, _, m, _, h => by simp at h
  | d :: r, row, l, 0, h, _ => by
    simp only [List.length_cons] at h
    rw [setV, setV_out r _ _ _ (by omega)]
    have : l < row.length := by omega
    simp [this]
  | d :: r, row, l, m + 1, h, hm => by
    simp only [List.length_cons] at h hm
    rw [setV, show l + (m + 1) = l + 1 + m by omega, setV_in r _ _ _ (by simp; omega) (by omega)]
    simp

/-- Cells one behind the other, as rows. -/
def Rs (imm : Nat → Prop) (w : World) (cells : List Value) (sz : Nat) (rows : List (List D)) : Prop :=
  cells.length = rows.length * sz ∧ ∀ (i : Nat) row, rows[i]? = some row → row.length = sz ∧ ∀ (l : Nat) x, row[l]? = some x → ∃ u, cells[i * sz + l]? = some u ∧ RO imm w x u ∧ x.solid = true ∧ x.isOwn = false

theorem mul_lt_row {sz x y m : Nat} (hxy : x < y) (hm : m < sz) : x * sz + m < y * sz := by
  have h1 : (x + 1) * sz ≤ y * sz := Nat.mul_le_mul_right sz (by omega)
  have h2 : (x + 1) * sz = x * sz + sz := Nat.succ_mul x sz
  omega

theorem Rs.set {imm : Nat → Prop} {w : World} {cells : List Value} {sz : Nat} {rows : List (List D)} (h : Rs imm w cells sz rows) {i : Nat} (hi : i < rows.length) {ds : List D} {us : List Value} (hd : ds.length = sz) (hu : us.length = sz)
    (hc : ∀ (m : Nat) x, ds[m]? = some x → ∃ u, us[m]? = some u ∧ RO imm w x u ∧ x.solid = true ∧ x.isOwn = false) : Rs imm w (setV cells (i * sz) us) sz (rows.set i ds) := by
  refine ⟨by rw [setV_length]; simp [h.1], fun i' row hr => ?_⟩
  have hfit : i * sz + us.length ≤ cells.length := by
    rw [h.1, hu]
    have h1 : (i + 1) * sz ≤ rows.length * sz := Nat.mul_le_mul_right sz (by omega)
    have h2 : (i + 1) * sz = i * sz + sz := Nat.succ_mul i sz
    omega
  by_cases e : i = i'
  · subst e
    rw [List.getElem?_set_self hi] at hr
    simp only [Option.some.injEq] at hr; subst hr
    refine ⟨hd, fun l x hx => ?_⟩
    have hl := (List.getElem?_eq_some_iff.1 hx).1
    obtain ⟨u, h1, h2⟩ := hc l x hx
    exact ⟨u, by rw [setV_in us cells _ l hfit (by omega)]; exact h1, h2⟩
  · rw [List.getElem?_set_ne e] at hr
    obtain ⟨h1, h2⟩ := h.2 i' row hr
    refine ⟨h1, fun l x hx => ?_⟩
    have hl := (List.getElem?_eq_some_iff.1 hx).1
    obtain ⟨u, h3, h4⟩ := h2 l x hx
    refine ⟨u, ?_, h4⟩
    rw [setV_out us cells _ _ ?_]
    · exact h3
    · rcases Nat.lt_or_gt_of_ne e with h5 | h5
      · right
        have := mul_lt_row (sz := sz) (m := sz - 1) h5 (by omega)
        omega
      · left
        have := mul_lt_row (sz := sz) (m := l) h5 (by omega)
        omega

def fillR (sz : Nat) : List (List D) → List (Nat × List D) → Option (List (List D))
  | rows, [] => some rows
  | rows, (i, ds) :: r => if i < rows.length ∧ ds.length = sz then fillR sz (rows.set i ds) r else Option.none

theorem fillR_spec {imm : Nat → Prop} {w : World} (sz : Nat) : ∀ (ps : List (Nat × List D)) (vs : List (Nat × Value)) (rows : List (List D)) (cells : Array Value), Rs imm w cells.toList sz rows →
    ps.length = vs.length → (∀ (m : Nat) (i : Nat) ds, ps[m]? = some (i, ds) → ∃ v, vs[m]? = some (i, v) ∧ v.cells.size = ds.length ∧ ∀ (l : Nat) x, ds[l]? = some x → ∃ u, v.cells.toList[l]? = some u ∧ RO imm w x u ∧ x.solid = true ∧ x.isOwn = false) →
    ∀ rows', fillR sz rows ps = some rows' → ∃ cells', Instr.fill (fun i => some (i * sz, sz)) cells vs = some cells' ∧ Rs imm w cells'.toList sz rows' ∧ rows'.length = rows.length
  | [], vs, rows, cells, h, hl, hp, rows', hf => by
    have : vs = [] := by cases vs <;> simp_all
    subst this
    simp [fillR] at hf; subst hf
    exact ⟨cells, rfl, h, rfl⟩
  | (i, es) :: ps, vs, rows, cells, h, hl, hp, rows', hf => by
    cases vs with
    | nil => simp at hl
    | cons iv vs =>
      obtain ⟨v, h1, h2, h3⟩ := hp 0 i es rfl
      simp at h1; subst h1
      simp only [fillR] at hf
      split at hf
      · next hc =>
        obtain ⟨hi, hes⟩ := hc
        have hcl : cells.size = rows.length * sz := by have := h.1; simpa using this
        obtain ⟨cells', q1, q2, q3⟩ := fillR_spec sz ps vs (rows.set i es) (v.cells.zipIdx.foldl (fun cs (p : Value × Nat) => cs.setIfInBounds (i * sz + p.2) p.1) cells) (by
          rw [← Array.foldl_toList, Array.toList_zipIdx, fold_setV, Nat.add_zero]
          exact h.set hi hes (by simp; omega) h3) (by simpa using hl) (fun m i' ds' hm => by
            obtain ⟨v', r1, r2⟩ := hp (m + 1) i' ds' (by simpa using hm)
            exact ⟨v', by simpa using r1, r2⟩) rows' hf
        refine ⟨cells', ?_, q2, by rw [q3]; simp⟩
        rw [Instr.fill]
        simp only
        rw [if_neg]
        · simpa using q1
        · have h1 : (i + 1) * sz ≤ rows.length * sz := Nat.mul_le_mul_right sz (by omega)
          have h2' : (i + 1) * sz = i * sz + sz := Nat.succ_mul i sz
          simp; omega
      · cases hf

/-- The parts' cells, as nobody changes them. -/
def solidifyP (σ : St) : List (Nat × List D) → Option (St × List (Nat × List D) × List Pl)
  | [] => some (σ, [], [])
  | (i, ds) :: r => match solidifyL σ ds with
    | some (σ1, ds', t1) => match solidifyP σ1 r with
      | some (σ2, r', t2) => some (σ2, (i, ds') :: r', t1 ++ t2)
      | Option.none => Option.none
    | Option.none => Option.none

theorem solidifyP_spec {a : Act} {w : World} : ∀ (ps : List (Nat × List D)) (vs : List (Nat × Value)) {G : Gh} {σ : St} (h : R G σ a w), ps.length = vs.length →
    (∀ (m : Nat) (i : Nat) ds, ps[m]? = some (i, ds) → ∃ v, vs[m]? = some (i, v) ∧ Cs G w σ v.cells.toList ds) → ∀ σ' ps' t, solidifyP σ ps = some (σ', ps', t) →
    ∃ G', R G' σ' a w ∧ Kp t G w G' w ∧ Fx σ σ' G G' ∧ ps'.length = ps.length ∧ (∀ (m : Nat) (i : Nat) ds, ps'[m]? = some (i, ds) → ∃ v, vs[m]? = some (i, v) ∧ v.cells.size = ds.length ∧
        ∀ (l : Nat) x, ds[l]? = some x → ∃ u, v.cells.toList[l]? = some u ∧ RO G'.imm w x u ∧ x.solid = true ∧ x.isOwn = false) ∧ (∀ b, G.imm b → G'.imm b)
  | [], vs, G, σ, h, hl, hc, σ', ps', t, hs => by
    simp only [solidifyP, Option.some.injEq, Prod.mk.injEq] at hs; obtain ⟨rfl, rfl, rfl⟩ := hs
    exact ⟨G, h, Kp.refl G w, Fx.refl σ G, rfl, fun m i ds hx => by simp at hx, fun _ hb => hb⟩
  | (i, ds) :: r, vs, G, σ, h, hl, hc, σ', ps', t, hs => by
    simp only [solidifyP] at hs
    split at hs
    · next σ1 ds' t1 h1 =>
      split at hs
      · next σ2 r' t2 h2 =>
        simp only [Option.some.injEq, Prod.mk.injEq] at hs; obtain ⟨rfl, rfl, rfl⟩ := hs
        cases vs with
        | nil => simp at hl
        | cons iv vs =>
          obtain ⟨v, q1, q2⟩ := hc 0 i ds rfl
          simp at q1; subst q1
          obtain ⟨G1, g1, g2, g3, g4, g5, g6, g7⟩ := solidifyL_spec ds _ h q2 _ _ _ h1
          obtain ⟨G2, k1, k2, k3, k4, k5, k6⟩ := solidifyP_spec r vs g1 (by simpa using hl) (fun m i' ds2 hm => by
            obtain ⟨v', r1, r2⟩ := hc (m + 1) i' ds2 (by simpa using hm)
            exact ⟨v', by simpa using r1, r2.1, fun j x hx => by
              obtain ⟨u, u1, u2, u3⟩ := r2.2 j x hx
              exact ⟨u, u1, g6 u x u2 u3⟩⟩) _ _ _ h2
          refine ⟨G2, k1, g2.trans k2, g3.trans k3, by simp [k4], fun m i' ds2 hm => ?_, fun b hb => k6 b (g7 b hb)⟩
          cases m with
          | zero =>
            simp at hm; obtain ⟨rfl, rfl⟩ := hm
            refine ⟨v, rfl, by rw [g4]; have := q2.1; simpa using this, fun l x hx => ?_⟩
            obtain ⟨u, u1, u2, u3⟩ := g5 l x hx
            exact ⟨u, u1, u2.mono k6 (fun b _ => SameAt.refl w b), u3⟩
          | succ m =>
            simp at hm
            obtain ⟨v', r1, r2⟩ := k5 m i' ds2 hm
            exact ⟨v', by simpa using r1, r2⟩
      · cases hs
    · cases hs

section
variable {P : Program} {G : Gh} {σ : St} {a : Act} {w : World} {o : Oper}

def buildSliceS (P : Program) (σ : St) (t : TypeId) (len : Nat) (parts : List (Nat × Operand)) (d : Nat) : Option (St × List Pl) :=
  match tel P t with
  | some e => match tzero P e, tsz P e, partsOf σ parts with
    | some zs, some sz, some ps => match solidifyP σ ps with
      | some (σ1, ps1, t1) => match fillR sz (List.replicate len zs) ps1 with
        | some rows => if d < σ1.n ∧ zs.length = sz ∧ 0 < sz ∧ len * sz ≤ 16777216 then some (σ1.own d sz rows, t1 ++ [.s d]) else Option.none
        | Option.none => Option.none
      | Option.none => Option.none
    | _, _, _ => Option.none
  | Option.none => Option.none

theorem run_buildSlice0 {t e : TypeId} {len : Nat} {parts : Array (Nat × Value)} {cells : Array Value} {ie : TypeInfo} {z : Value} (w : World)
    (hu : P.underlying t = some (.slice e)) (hie : P.info? e = some ie) (hz : ie.zero = some z) (hsmall : ¬ len * ie.size > 2 ^ 24)
    (h : Instr.fill (fun i => some (i * ie.size, ie.size)) (madeCells z.cells (len * ie.size)) parts.toList = some cells) :
    (Instr.buildSlice t len parts).run P w = .ok (.slice (some ⟨w.heap.size, 0, Option.none⟩) len len) (w.alloc (.cells cells e)) := by
  by_cases hpos : len * ie.size = 0
  · have h' := h
    rw [hpos, madeCells, Array.range_zero'] at h'
    simp only [List.map_toArray, Array.map_empty] at h'
    simp [Instr.buildSlice, run_underlying hu, sizeOf, typeInfo, hie, hpos, newRow]
    have hr0 : (Array.range 0).map (fun _ => (default : Value)) = #[] := by simp [Array.range_zero']
    rw [hr0]
    simp only [List.map_nil] at h'
    rw [h']
    simp
  · exact run_buildSlice w t e len parts cells ie z hu hie hz hsmall hpos h

theorem rs_made {z : Value} {zs : List D} {sz len : Nat} {imm : Nat → Prop} {w : World} (hl : zs.length = sz) (hzc : z.cells.size = sz) (hg : ∀ (j : Nat) d, zs[j]? = some d → ∃ v, z.cells.toList[j]? = some v ∧ litD v = some d) :
    Rs imm w (madeCells z.cells (len * sz)).toList sz (List.replicate len zs) := by
  refine ⟨by simp [size_madeCells], fun r row hr => ?_⟩
  obtain ⟨hr1, hr2⟩ := List.getElem?_eq_some_iff.1 hr
  simp at hr1 hr2
  subst hr2
  refine ⟨hl, fun m x hx => ?_⟩
  have hm := (List.getElem?_eq_some_iff.1 hx).1
  obtain ⟨u, q1, q2⟩ := hg m x hx
  refine ⟨u, ?_, litD_ro q2 _ _, (litD_solid q2).1, (litD_solid q2).2⟩
  have hlt : r * sz + m < len * sz := mul_lt_row hr1 (by omega)
  have hmod : (r * sz + m) % z.cells.size = m := by
    rw [hzc, Nat.add_comm, Nat.add_mul_mod_self_right, Nat.mod_eq_of_lt (by omega)]
  have hq : z.cells[m]? = some u := by simpa using q1
  rw [Array.getElem?_toList]
  simp only [madeCells, Array.getElem?_map, Array.getElem?_range, hlt, if_true, Option.map_some, hmod]
  simp [getElem!_def, hq]

theorem Rs.rowsIn {cells : Array Value} {sz : Nat} {rows : List (List D)} {e : TypeId} (h : Rs G.imm w cells.toList sz rows) : RowsIn G w (w.alloc (.cells cells e)) w.heap.size 0 sz rows := fun i row hr =>
  ⟨(h.2 i row hr).1, fun l x hx => by
    obtain ⟨u, q1, q2⟩ := (h.2 i row hr).2 l x hx
    exact ⟨u, by rw [World.cell?_alloc_new, Nat.zero_add]; simpa using q1, q2⟩⟩

theorem buildSlice_out (h : R G σ a w) {t : TypeId} {len : Nat} {parts : Array (Nat × Operand)} (ho : o.op = .buildSlice t len parts) {d : Nat} (hd : o.dst = some d) {σ' : St} {tt : List Pl} (hs : buildSliceS P σ t len parts.toList d = some (σ', tt)) : Out P G σ a w o σ' tt := by
  unfold buildSliceS at hs
  split at hs
  · next e he =>
    split at hs
    · next zs sz ps hz hsz hps =>
      split at hs
      · next σ1 ps1 t1 hsol =>
        split at hs
        · next rows hf =>
          split at hs
          · next hc =>
            obtain ⟨hn, hzl, hpos, hle⟩ := hc
            simp only [Option.some.injEq, Prod.mk.injEq] at hs; obtain ⟨rfl, rfl⟩ := hs
            obtain ⟨z, hz1, hz2⟩ := Option.bind_eq_some_iff.1 hz
            obtain ⟨i, hi, hz3⟩ := Option.bind_eq_some_iff.1 hz1
            obtain ⟨hl, hg⟩ := mapLit_spec hz2
            have hisz : i.size = sz := by simpa [tsz, hi] using hsz
            have hzc : z.cells.size = sz := by rw [← hzl, hl]; simp
            obtain ⟨p1, p2⟩ := partsOf_spec h _ ps hps
            obtain ⟨G1, g1, g2, g3, g4, g5, g6⟩ := solidifyP_spec ps (parts.toList.map fun (i, x) => (i, a.eval x)) h (by simp [p1]) (fun m i ds hm => by
              obtain ⟨v, r1, r2, _⟩ := p2 m i ds hm
              exact ⟨v, r1, r2⟩) _ _ _ hsol
            obtain ⟨cells, q1, q2, q3⟩ := fillR_spec sz ps1 (parts.toList.map fun (i, x) => (i, a.eval x)) (List.replicate len zs) (madeCells z.cells (len * sz)) (rs_made (imm := G1.imm) (w := w) hzl hzc hg) (by rw [g4]; simp [p1]) g5 rows hf
            have hrl : rows.length = len := by rw [q3]; simp
            have hcs : cells.size = len * sz := by have := q2.1; rw [hrl] at this; simpa using this
            obtain ⟨G2, k1, k2, k3⟩ := g1.ownNew (d := d) hn (sz := sz) (rows := rows) (b := w.heap.size) (o := 0) (c := len) (v := .slice (some ⟨w.heap.size, 0, Option.none⟩) len len)
              (w' := w.alloc (.cells cells e)) (Nat.le_refl _) (by simp) (grown_alloc w _) (by rw [hrl]) (by rw [hrl]; exact Nat.le_refl _) (there_new (by rw [hcs]; exact Nat.le_refl _)) q2.rowsIn
            refine ⟨_, G2, _, ?_, .inl ⟨_, rfl, by rw [hd]; exact k1⟩, g2.trans k2, g3.trans k3⟩
            simp only [execOp, ho]
            refine run_v2 (run_buildSlice0 w (tel_spec he) hi hz3 (by rw [hisz]; omega) ?_)
            rw [hisz]
            simpa using q1
          · cases hs
        · cases hs
      · cases hs
    · cases hs
  · cases hs

end
end Go.AI

/-
  The abstract interpreter, part T: append; bytes as a text.
-/
namespace Go.AI
open Go.RowKit

section
variable {P : Program} {G : Gh} {σ : St} {a : Act} {w : World} {o : Oper}

theorem run_append_none {t tx ty e : TypeId} {i : TypeInfo} (ht : P.underlying t = some (.slice e)) (hi : P.info? e = some i) {x : Value} {news : List Value} (hs : Src P i.size tx x 0 news w) :
    (Builtin.append_ #[t, tx] ty #[.slice Option.none 0 0, x]).run P w = .ok (.slice Option.none 0 0) w := by
  rcases hs.kind with ⟨e', hk⟩ | hk <;> simp [Builtin.append_, run_underlying ht, run_underlying hk, sizeOf, typeInfo, hi, hs.len, hs.cells]

theorem le_grownCap (w : World) (need old : Nat) (e : TypeId) : need ≤ grownCap w need old e := by
  simp [grownCap, Question.cut]

theorem zeroCells_size (z : Array Value) (n : Nat) : (Builtin.zeroCells z n).size = n * z.size := by simp [Builtin.zeroCells]

/-- A slot's own slice gets more elements. -/
theorem R.grow (h : R G σ a w) {d : Nat} (hd : d < σ.n) {sz : Nat} {rows rx : List (List D)} (hs : σ.sl d = .one (.sl true sz rows)) {t tx ty e : TypeId} {i : TypeInfo} {z : Value} (ht : P.underlying t = some (.slice e))
    (hi : P.info? e = some i) (hz : i.zero = some z) (hsz : i.size = sz) (hzc : z.cells.size = sz) {x : Value} {news : List Value} (hsrc : Src P i.size tx x rx.length news w)
    (hcx : ∀ (i : Nat) row, rx[i]? = some row → row.length = sz ∧ ∀ (l : Nat) y, row[l]? = some y → ∃ u, news[i * sz + l]? = some u ∧ RO G.imm w y u ∧ y.solid = true ∧ y.isOwn = false)
    (h48 : (rows.length + rx.length) * i.bytes ≤ 140737488355328) (h63 : rows.length + rx.length ≤ 9223372036854775807) :
    ∃ v' G' w', (Builtin.append_ #[t, tx] ty #[a.tmps.getD d undef, x]).run P w = .ok v' w' ∧ R G' ((σ.setTop (.s d) 0 0 (.sl true sz (rows ++ rx))).bump (.s d) 0 0) (a.put (some d) v') w' ∧
      Kp [.s d] G w G' w' ∧ Fx σ ((σ.setTop (.s d) 0 0 (.sl true sz (rows ++ rx))).bump (.s d) 0 0) G G' := by
  have hcell : σ.cell (.s d) [(0, 0)] = some (.sl true sz rows) := by simp [St.cell, St.rows, hs, SV.rows, cellIn, D.atU]
  have hv : a.tmps.getD d undef = G.val (.s d) [(0, 0)] := by have := h.slots d hd; rw [hs] at this; exact this
  have hnl : news.length = rx.length * sz := by rw [← hsz]; exact hsrc.newsLen
  -- what the rows are, behind it
  have hcol : ∀ (g : Nat → Nat → Value), (∀ i l, i < rows.length → g i l = G.val (.s d) [(0, 0), (i, l)]) → (∀ i l, l < sz → i < rx.length → g (rows.length + i) l = news.getD (i * sz + l) undef) →
      ∀ i l y, cellIn (rows ++ rx) (i, l) = some y → (RO G.imm w y (g i l) ∧ y.solid = true ∧ y.isOwn = false) ∨ (σ.cell (.s d) [(0, 0), (i, l)] = some y ∧ g i l = G.val (.s d) [(0, 0), (i, l)]) := by
    intro g g1 g2 i l y hy
    obtain ⟨row, h1, h2⟩ := cellIn_some.1 hy
    rcases Nat.lt_or_ge i rows.length with hlt | hge
    · right
      rw [List.getElem?_append_left hlt] at h1
      refine ⟨cell_append hcell ?_, g1 i l hlt⟩
      simp [D.atU, cellIn_some.2 ⟨row, h1, h2⟩]
    · left
      rw [List.getElem?_append_right hge] at h1
      obtain ⟨q1, q2⟩ := hcx _ row h1
      obtain ⟨u, q3, q4, q5⟩ := q2 l y h2
      have hl := (List.getElem?_eq_some_iff.1 h2).1
      have hi' := (List.getElem?_eq_some_iff.1 h1).1
      have := g2 (i - rows.length) l (by omega) hi'
      rw [show rows.length + (i - rows.length) = i by omega] at this
      rw [this]
      simp only [List.getD, q3, Option.getD_some]
      exact ⟨q4, q5⟩
  let g : Nat → Nat → Value := fun i l => if i < rows.length then G.val (.s d) [(0, 0), (i, l)] else news.getD ((i - rows.length) * sz + l) undef
  have hg1 : ∀ i l, i < rows.length → g i l = G.val (.s d) [(0, 0), (i, l)] := fun i l hl => if_pos hl
  have hg2 : ∀ i l, l < sz → i < rx.length → g (rows.length + i) l = news.getD (i * sz + l) undef := fun i l _ _ => by
    show (if _ then _ else _) = _
    rw [if_neg (by omega), show rows.length + i - rows.length = i by omega]
  have hcg := hcol g hg1 hg2
  have hbnd : ∀ (i row : Nat), i < row → ∀ l, l < sz → i * sz + l < row * sz := fun i row h1 l h2 => mul_lt_row h1 h2
  rcases (show LocOwn G w (.s d) [(0, 0)] sz rows from h.loc _ _ _ hcell) with ⟨e1, e2⟩ | ⟨b, o', c, e1, e2, e3, e4, e5⟩
  · -- nothing there yet
    subst e1
    rw [e2] at hv
    by_cases hn : rx.length = 0
    · have : rx = [] := List.length_eq_zero_iff.1 hn
      subst this
      refine ⟨.slice Option.none 0 0, ?_⟩
      have hcl : cellIn (σ.rows (.s d)) (0, 0) = some (.sl true sz []) := by simp [St.rows, hs, SV.rows, cellIn]
      have h1 := h.top (p := .s d) (k := 0) (j := 0) (d' := .sl true sz []) (G' := G) (w' := w) (a' := a.put (some d) (.slice Option.none 0 0)) (by rw [hcl]; rfl) rfl (by simp [Act.put]) rfl (fun i hi => ?_) (fun _ _ _ => rfl) (fun _ _ _ _ hb => hb) (fun b q π _ _ _ => SameAt.refl w b) (fun _ hb => hb) (fun b _ => SameAt.refl w b)
        h.immOwn h.immLt h.ownLt (fun i ds e => by cases e) (fun ρ x hx => ?_) (fun _ _ _ _ e => by cases e) (fun _ _ _ _ _ e => by cases e)
      · refine ⟨G, w, ?_, by simpa using h1, (Kp.refl G w).mono (fun _ h => by cases h), Fx.of setTop_n (fun _ _ => rfl) (fun i _ ds' hd' => ?_) (fun _ _ _ _ => rfl)⟩
        · rw [hv]; exact run_append_none ht hi hsrc
        · exact ⟨ds', hd'⟩
      · by_cases e : i = d
        · subst e
          rw [hs, show (a.put (some i) (.slice Option.none 0 0)).tmps = a.tmps.setIfInBounds i _ from rfl, getD_set_same _ _ _ _ (by rw [h.size]; exact hd)]
          exact e2.symm
        · rw [show (a.put (some d) (.slice Option.none 0 0)).tmps = a.tmps.setIfInBounds d _ from rfl, getD_set_other _ _ _ _ _ (Ne.symm e)]
          exact h.slots i hi
      · cases ρ with
        | nil => simp [D.atU] at hx; subst hx; exact ⟨.inl ⟨rfl, e2⟩, fun e => absurd rfl e⟩
        | cons ij ρ => simp [D.atU, cellIn] at hx
    · have hgc := le_grownCap w (0 + rx.length) 0 e
      have hrun := run_append_grow_src (P := P) (w := w) t tx ty e i z ht hi hz Option.none 0 0 [] (run_firstCells_none w.drew i.size 0 0 0) x rx.length news hsrc (by omega) (by simp at h63 ⊢; omega) (growslice_fits (by omega) (by simpa using h48))
      generalize hcap : grownCap w (0 + rx.length) 0 e = cap at hrun hgc
      have hszcells : (([] ++ news).toArray ++ Builtin.zeroCells z.cells (cap - (0 + rx.length))).size = cap * sz := by
        simp only [List.nil_append, Array.size_append, List.size_toArray, zeroCells_size, hzc, hnl, ← Nat.add_mul]
        congr 1; omega
      obtain ⟨G', k1, k2, k3⟩ := h.ownAt (d := d) hd hs (sz := sz) (rows := [] ++ rx) (b := w.heap.size) (o := 0) (c := cap) (v := .slice (some ⟨w.heap.size, 0, Option.none⟩) (0 + rx.length) cap) (g := g)
        (w' := w.drew.alloc (.cells (([] ++ news).toArray ++ Builtin.zeroCells z.cells (cap - (0 + rx.length))) e)) (.inl ⟨by
          cases e : G.own w.heap.size with
          | none => rfl
          | some q => have := h.ownLt _ q e; omega, Nat.le_refl _⟩) (fun hi => by have := h.immLt _ hi; omega) (by show _ < (w.drew.alloc _).heap.size; simp) (grown_drew w _) (by simp) (by simp; omega)
        (there_new (w := w.drew) (by rw [hszcells]; exact Nat.le_refl _))
        (fun i row hr => by
          simp only [List.nil_append] at hr
          refine ⟨(hcx i row hr).1, fun l hl => ?_⟩
          have hi' := (List.getElem?_eq_some_iff.1 hr).1
          have hlt := hbnd i _ hi' l hl
          have := World.cell?_alloc_new w.drew (([] ++ news).toArray ++ Builtin.zeroCells z.cells (cap - (0 + rx.length))) e (0 + i * sz + l)
          refine this.trans ?_
          rw [Array.getElem?_append_left (by simp; omega)]
          have h3 := hg2 i l hl hi'
          simp only [List.length_nil, Nat.zero_add] at h3
          rw [h3]
          simp [List.getD, List.getElem?_eq_getElem (show i * sz + l < news.length by omega)]) hcg
      exact ⟨_, G', _, by rw [hv]; exact hrun, k1, k2, k3⟩
  · rw [e1] at hv
    have hold : ∀ j, j < rows.length * sz → ∃ u, w.cell? ⟨b, o' + j, Option.none⟩ = some u := fun j hj => by
      have h1 := (e4 j (by have := Nat.mul_le_mul_right sz e2; omega)).1
      exact Option.isSome_iff_exists.1 h1
    by_cases hroom : rows.length + rx.length ≤ c
    · -- room
      have hin : ∀ j, j < news.length → rows.length * sz + j < c * sz := fun j hj => by
        have := Nat.mul_le_mul_right sz hroom
        rw [Nat.add_mul] at this
        omega
      have hth : ∀ j, j < news.length → (w.cell? ⟨b, o' + rows.length * i.size + j, Option.none⟩).isSome = true ∧ w.frozen? ⟨b, o' + rows.length * i.size + j, Option.none⟩ = false := fun j hj => by
        have := e4 (rows.length * sz + j) (hin j hj)
        rw [hsz, show o' + rows.length * sz + j = o' + (rows.length * sz + j) by omega]
        exact this
      have hrun := run_append_room_src (P := P) (w := w) t tx ty e i ht hi b o' rows.length c x rx.length news hsrc hroom (fun j hj => (hth j hj).1) (fun j hj => (hth j hj).2)
      obtain ⟨f1, f2⟩ := setCells_frame b news (o' + rows.length * i.size) w
      have hfr : ∀ (us : List Value) (x : Nat) (w : World), (w.setCells b x us).os = w.os ∧ (w.setCells b x us).tape = w.tape ∧ (w.setCells b x us).output = w.output := by
        intro us
        induction us with
        | nil => intro x w; exact ⟨rfl, rfl, rfl⟩
        | cons u us ih => intro x w; rw [World.setCells]; exact ih _ _
      have hfr' := hfr news (o' + rows.length * i.size) w
      obtain ⟨G', k1, k2, k3⟩ := h.ownAt (d := d) hd hs (sz := sz) (rows := rows ++ rx) (b := b) (o := o') (c := c) (v := .slice (some ⟨b, o', Option.none⟩) (rows.length + rx.length) c) (g := g)
        (w' := w.setCells b (o' + rows.length * i.size) news) (.inr e3) (fun hi => by have := h.immOwn b hi; rw [e3] at this; cases this) (by rw [f2]; exact h.ownLt b _ e3)
        ⟨hfr'.1, hfr'.2.1, hfr'.2.2, by rw [f2]; exact Nat.le_refl _, fun b' hb' _ => f1 b' hb'⟩ (by simp) (by simpa using hroom) (World.there_setCells e4 b _ news)
        (fun i' row hr => by
          rcases Nat.lt_or_ge i' rows.length with hlt | hge
          · rw [List.getElem?_append_left hlt] at hr
            refine ⟨(e5 i' row hr).1, fun l hl => ?_⟩
            rw [World.cell?_setCells_out b news _ w _ (fun _ _ => by left; have := hbnd i' _ hlt l hl; simp only [hsz]; omega), (e5 i' row hr).2 l hl, hg1 i' l hlt]
            rfl
          · rw [List.getElem?_append_right hge] at hr
            refine ⟨(hcx _ row hr).1, fun l hl => ?_⟩
            have hi' := (List.getElem?_eq_some_iff.1 hr).1
            have hlt := hbnd _ _ hi' l hl
            have h3 := hg2 (i' - rows.length) l hl hi'
            rw [show rows.length + (i' - rows.length) = i' by omega] at h3
            rw [h3]
            have := World.cell?_setCells_in b news (o' + rows.length * i.size) w (fun j hj => (hth j hj).1) ((i' - rows.length) * sz + l) (by omega)
            rw [show o' + rows.length * i.size + ((i' - rows.length) * sz + l) = o' + i' * sz + l by
              rw [hsz]
              have : rows.length * sz + (i' - rows.length) * sz = i' * sz := by rw [← Nat.add_mul]; congr 1; omega
              omega] at this
            rw [this]
            simp [List.getD, List.getElem?_eq_getElem (show (i' - rows.length) * sz + l < news.length by omega)]) hcg
      exact ⟨_, G', _, by rw [hv]; exact hrun, k1, k2, k3⟩
    · -- none: a new row
      have hgc := le_grownCap w (rows.length + rx.length) c e
      let olds : List Value := (List.range (rows.length * sz)).map fun j => (w.cell? ⟨b, o' + j, Option.none⟩).getD undef
      have hol : olds.length = rows.length * sz := by simp [olds]
      have holds : ∀ j v, olds[j]? = some v → w.cell? ((⟨b, o', Option.none⟩ : Addr).add j) = some v := fun j v hj => by
        have hlt := (List.getElem?_eq_some_iff.1 hj).1
        rw [hol] at hlt
        obtain ⟨u, hu⟩ := hold j hlt
        have : olds[j]? = some u := by simp [olds, hlt, hu]
        rw [this] at hj; cases hj
        rw [Addr.add_mid]; exact hu
      have hrun := run_append_grow_src (P := P) (w := w) t tx ty e i z ht hi hz (some ⟨b, o', Option.none⟩) rows.length c olds
        (run_firstCells_some w.drew i.size rows.length _ rows.length c olds (by rw [hol, hsz]) (by simpa using holds)) x rx.length news hsrc (by omega) (by omega) (growslice_fits (by omega) h48)
      generalize hcap : grownCap w (rows.length + rx.length) c e = cap at hrun hgc
      have hszcells : ((olds ++ news).toArray ++ Builtin.zeroCells z.cells (cap - (rows.length + rx.length))).size = cap * sz := by
        simp only [Array.size_append, List.size_toArray, List.length_append, zeroCells_size, hzc, hnl, hol, ← Nat.add_mul]
        congr 1; omega
      obtain ⟨G', k1, k2, k3⟩ := h.ownAt (d := d) hd hs (sz := sz) (rows := rows ++ rx) (b := w.heap.size) (o := 0) (c := cap) (v := .slice (some ⟨w.heap.size, 0, Option.none⟩) (rows.length + rx.length) cap) (g := g)
        (w' := w.drew.alloc (.cells ((olds ++ news).toArray ++ Builtin.zeroCells z.cells (cap - (rows.length + rx.length))) e)) (.inl ⟨by
          cases e : G.own w.heap.size with
          | none => rfl
          | some q => have := h.ownLt _ q e; omega, Nat.le_refl _⟩) (fun hi => by have := h.immLt _ hi; omega) (by show _ < (w.drew.alloc _).heap.size; simp) (grown_drew w _) (by simp) (by simp; omega)
        (there_new (w := w.drew) (by rw [hszcells]; exact Nat.le_refl _))
        (fun i' row hr => by
          have hnew : ∀ j, (w.drew.alloc (.cells ((olds ++ news).toArray ++ Builtin.zeroCells z.cells (cap - (rows.length + rx.length))) e)).cell? ⟨w.heap.size, 0 + j, Option.none⟩ = ((olds ++ news).toArray ++ Builtin.zeroCells z.cells (cap - (rows.length + rx.length)))[0 + j]? := fun j =>
            World.cell?_alloc_new w.drew ((olds ++ news).toArray ++ Builtin.zeroCells z.cells (cap - (rows.length + rx.length))) e (0 + j)
          rcases Nat.lt_or_ge i' rows.length with hlt | hge
          · rw [List.getElem?_append_left hlt] at hr
            refine ⟨(e5 i' row hr).1, fun l hl => ?_⟩
            have hlt' := hbnd i' _ hlt l hl
            rw [Nat.add_assoc, hnew, Nat.zero_add, Array.getElem?_append_left (by simp; omega), List.getElem?_toArray, List.getElem?_append_left (by omega), hg1 i' l hlt]
            have h2 := (e5 i' row hr).2 l hl
            rw [Nat.add_assoc] at h2
            simp [olds, hlt', h2]
          · rw [List.getElem?_append_right hge] at hr
            refine ⟨(hcx _ row hr).1, fun l hl => ?_⟩
            have hi' := (List.getElem?_eq_some_iff.1 hr).1
            have hlt := hbnd _ _ hi' l hl
            have h3 := hg2 (i' - rows.length) l hl hi'
            rw [show rows.length + (i' - rows.length) = i' by omega] at h3
            have hidx : i' * sz + l = rows.length * sz + ((i' - rows.length) * sz + l) := by
              have : rows.length * sz + (i' - rows.length) * sz = i' * sz := by rw [← Nat.add_mul]; congr 1; omega
              omega
            rw [h3, Nat.add_assoc, hnew, Nat.zero_add, hidx, Array.getElem?_append_left (by simp; omega), List.getElem?_toArray, List.getElem?_append_right (by omega), hol, Nat.add_sub_cancel_left]
            simp [List.getD, List.getElem?_eq_getElem (show (i' - rows.length) * sz + l < news.length by omega)]) hcg
      exact ⟨_, G', _, by rw [hv]; exact hrun, k1, k2, k3⟩

/-! ### Where elements come from -/
def D.szOf (σ : St) : D → Nat
  | .sl _ sz _ => sz
  | .bor p π _ _ => match σ.cell p π with
    | some (.sl true sz _) => sz
    | _ => 0
  | _ => 0

/-- What may be copied from cell to cell. -/
def D.okF : D → Bool
  | .lit v => v.oneCell'
  | .nil => true
  | .sl false _ _ => true
  | _ => false

def D.srcRows (σ : St) : D → Option (List (List D))
  | .sl false _ rows => some (rows.map (·.map D.ro))
  | .nil => some []
  | .bor p π n rg => σ.rowsOf (.bor p π n rg)
  | _ => Option.none

theorem okF_spec {imm : Nat → Prop} {d : D} (hk : d.okF = true) {u : Value} (hr : RO imm w d u) : d.solid = true ∧ d.isOwn = false ∧ u.oneCell' = true := by
  cases d with
  | lit v => have := RO.lit.1 hr; subst this; exact ⟨rfl, rfl, hk⟩
  | nil => obtain ⟨f, h1, h2⟩ := hr; rw [← h1, show f [] = _ from h2 [] _ rfl]; exact ⟨rfl, rfl, rfl⟩
  | sl b sz rows => cases b with
    | true => cases hk
    | false => obtain ⟨A, c, h1, _⟩ := roslice hr; rw [h1]; exact ⟨rfl, rfl, rfl⟩
  | _ => cases hk

theorem okF_ro {u : Value} {d : D} (hk : d.okF = true) (hv : LocV G w σ u d) : RO G.imm w d u := by
  cases d with
  | lit v => exact hv
  | nil => exact hv
  | sl b sz rows => cases b with
    | true => cases hk
    | false => exact hv
  | _ => cases hk

theorem RO.ro {imm : Nat → Prop} {d : D} {u : Value} (h : RO imm w d u) : RO imm w d.ro u := by
  cases d with
  | sl b sz rows => exact RO.flag h
  | _ => exact h

theorem src_cells (h : R G σ a w) {dx : D} {v : Value} (hv : LocV G w σ v dx) {rx : List (List D)} (hr : dx.srcRows σ = some rx) (hk : rx.all (·.all (·.okF)) = true) :
    ∃ A c, v = .slice A rx.length c ∧ ∀ (i : Nat) row, rx[i]? = some row → row.length = dx.szOf σ ∧ ∃ b o, A = some ⟨b, o, Option.none⟩ ∧ (G.imm b ∨ ∃ q, G.own b = some q) ∧
      ∀ (l : Nat) y, row[l]? = some y → ∃ u, w.cell? ⟨b, o + i * dx.szOf σ + l, Option.none⟩ = some u ∧ RO G.imm w y u ∧ y.solid = true ∧ y.isOwn = false ∧ u.oneCell' = true := by
  have hok : ∀ (i : Nat) row, rx[i]? = some row → ∀ (l : Nat) y, row[l]? = some y → y.okF = true := fun i row h1 l y h2 => by
    have h3 := List.all_eq_true.1 hk row (List.mem_of_getElem? h1)
    exact List.all_eq_true.1 h3 y (List.mem_of_getElem? h2)
  cases dx with
  | sl b sz rows =>
    cases b with
    | true => exact hv.elim
    | false =>
      simp only [D.srcRows, Option.some.injEq] at hr; subst hr
      obtain ⟨f, rfl, h2⟩ := (show RO G.imm w (.sl false sz rows) v from hv)
      obtain ⟨A, c, h3, h4, h5⟩ := h2 [] _ rfl
      refine ⟨A, c, by simpa using h3, fun i row hrow => ?_⟩
      · simp only [List.getElem?_map, Option.map_eq_some_iff] at hrow
        obtain ⟨row0, hr0, rfl⟩ := hrow
        rcases h5 with h5 | ⟨b, o', h5, h6, h7⟩
        · rw [h5] at hr0; simp at hr0
        · refine ⟨by simpa [D.szOf] using (h7 i row0 hr0).1, b, o', h5, .inl h6, fun l y hy => ?_⟩
          simp only [List.getElem?_map, Option.map_eq_some_iff] at hy
          obtain ⟨y0, hy0, rfl⟩ := hy
          have hl := (List.getElem?_eq_some_iff.1 hy0).1
          rw [(h7 i row0 hr0).1] at hl
          have hro : RO G.imm w y0.ro (f [(i, l)]) := RO.ro (RO.sub h2 (cellIn_some.2 ⟨row0, hr0, hy0⟩))
          obtain ⟨k1, k2, k3⟩ := okF_spec (hok i (row0.map D.ro) (by simp [hr0]) l y0.ro (by simp [hy0])) hro
          exact ⟨_, (h7 i row0 hr0).2 l hl, hro, k1, k2, k3⟩
  | nil =>
    simp only [D.srcRows, Option.some.injEq] at hr; subst hr
    obtain ⟨f, h1, h2⟩ := (show RO G.imm w .nil v from hv)
    exact ⟨Option.none, 0, by rw [← h1, show f [] = _ from h2 [] _ rfl]; rfl, fun i row hrow => by simp at hrow⟩
  | bor p π n rg =>
    simp only [D.srcRows] at hr
    have hr0 := hr
    simp only [St.rowsOf] at hr
    split at hr
    · next hst =>
      split at hr
      · next sz r hcell =>
        have hvv := hv hst _ r hcell
        have hszo : (D.bor p π n rg).szOf σ = sz := by simp [D.szOf, hcell]
        rcases (show LocOwn G w p π sz r from h.loc p π _ hcell) with ⟨e1, e2⟩ | ⟨b, o', c, e1, e2, e3, e4, e5⟩
        · subst e1
          have hrx : rx = [] := by
            cases rg with
            | none => simpa using hr.symm
            | some lh =>
              obtain ⟨lo, hi⟩ := lh
              simp only at hr
              split at hr
              · simpa using hr.symm
              · cases hr
          subst hrx
          obtain ⟨A, c, h1, h2⟩ := rowsOf_val h hv hr0
          exact ⟨A, c, h1, fun i row hrow => by simp at hrow⟩
        · rw [e1] at hvv
          have hcells : ∀ (i : Nat) row, r[i]? = some row → row.length = sz ∧ ∀ (l : Nat) y, row[l]? = some y → y.okF = true → ∃ u, w.cell? ⟨b, o' + i * sz + l, Option.none⟩ = some u ∧ RO G.imm w y u ∧ y.solid = true ∧ y.isOwn = false ∧ u.oneCell' = true := by
            intro i row hrow
            obtain ⟨q1, q2⟩ := e5 i row hrow
            refine ⟨q1, fun l y hy hyk => ?_⟩
            have hl := (List.getElem?_eq_some_iff.1 hy).1
            have hc : σ.cell p (π ++ [(i, l)]) = some y := cell_append hcell (by simp [D.atU, cellIn_some.2 ⟨row, hrow, hy⟩])
            have hno : y.isOwn = false := by cases y <;> simp [D.okF, D.isOwn] at hyk ⊢ <;> (rename_i b _ _; cases b <;> simp_all [D.okF, D.isOwn])
            have hro := okF_ro hyk ((h.loc _ _ _ hc).toV hno)
            obtain ⟨k1, k2, k3⟩ := okF_spec hyk hro
            exact ⟨_, q2 l (by omega), hro, k1, k2, k3⟩
          cases rg with
          | none =>
            simp at hr; subst hr
            refine ⟨_, c, hvv, fun i row hrow => ?_⟩
            rw [hszo]
            refine ⟨(hcells i row hrow).1, b, o', rfl, .inr ⟨_, e3⟩, fun l y hy => (hcells i row hrow).2 l y hy (hok i row hrow l y hy)⟩
          | some lh =>
            obtain ⟨lo, hi⟩ := lh
            simp only at hr
            split at hr
            · next hc =>
              simp only [Option.some.injEq] at hr; subst hr
              have hl : ((r.take hi).drop lo).length = hi - lo := by simp; omega
              rw [hszo, hl]
              have hadd : ((⟨b, o', Option.none⟩ : Addr).add (lo * sz)) = ⟨b, o' + lo * sz, Option.none⟩ := Addr.add_mid b o' _
              simp only [rgval, Option.map_some, hadd] at hvv
              refine ⟨_, _, hvv, fun i row hrow => ?_⟩
              · have hrow0 := hrow
                rw [List.getElem?_drop, List.getElem?_take] at hrow
                split at hrow
                · next hlt =>
                  refine ⟨(hcells _ row hrow).1, b, o' + lo * sz, by rw [if_neg (by omega)], .inr ⟨_, e3⟩, fun l y hy => ?_⟩
                  obtain ⟨u, u1, u2⟩ := (hcells _ row hrow).2 l y hy (hok i row hrow0 l y hy)
                  refine ⟨u, ?_, u2⟩
                  rw [← u1, Nat.add_mul]
                  congr 2; omega
                · cases hrow
            · cases hr
      · cases hr
    · cases hr
  | _ => simp [D.srcRows] at hr

/-- The elements' cells, one behind the other. -/
theorem src_of (h : R G σ a w) {dx : D} {v : Value} (hv : LocV G w σ v dx) {rx : List (List D)} (hr : dx.srcRows σ = some rx) (hk : rx.all (·.all (·.okF)) = true) {sz : Nat} (hsz : rx = [] ∨ dx.szOf σ = sz)
    {tx : TypeId} (ht : isSliceT P tx = true) :
    ∃ news : List Value, Src P sz tx v rx.length news w ∧ ∀ (i : Nat) row, rx[i]? = some row → row.length = sz ∧ ∀ (l : Nat) y, row[l]? = some y → ∃ u, news[i * sz + l]? = some u ∧ RO G.imm w y u ∧ y.solid = true ∧ y.isOwn = false := by
  obtain ⟨e', he⟩ := isSliceT_spec ht
  obtain ⟨A, c, hv', hcells⟩ := src_cells h hv hr hk
  subst hv'
  rcases hsz with hsz | hsz
  · subst hsz
    refine ⟨[], ?_, fun i row hrow => by simp at hrow⟩
    cases A with
    | none => exact Src.ofNil w he c
    | some ad => exact Src.ofSlice w he ad 0 c [] (by simp) (fun j u hu => by simp at hu) (fun u hu => by simp at hu)
  · subst hsz
    cases A with
    | none =>
      have : rx = [] := by
        cases rx with
        | nil => rfl
        | cons r rs => obtain ⟨_, b, o', e, _⟩ := hcells 0 r rfl; cases e
      subst this
      exact ⟨[], Src.ofNil w he c, fun i row hrow => by simp at hrow⟩
    | some ad =>
      obtain ⟨news, hn⟩ : ∃ news : List Value, news = (List.range (rx.length * dx.szOf σ)).map fun j => (w.cell? (ad.add j)).getD undef := ⟨_, rfl⟩
      have hget : ∀ (i : Nat) row, rx[i]? = some row → ∀ (l : Nat) y, row[l]? = some y → ∃ u, news[i * dx.szOf σ + l]? = some u ∧ w.cell? (ad.add (i * dx.szOf σ + l)) = some u ∧ RO G.imm w y u ∧ y.solid = true ∧ y.isOwn = false ∧ u.oneCell' = true := by
        intro i row hrow l y hy
        obtain ⟨q1, b, o', q2, _, q3⟩ := hcells i row hrow
        obtain ⟨u, q4, q5⟩ := q3 l y hy
        simp only [Option.some.injEq] at q2; subst q2
        have hl := (List.getElem?_eq_some_iff.1 hy).1
        have hi := (List.getElem?_eq_some_iff.1 hrow).1
        have hlt := mul_lt_row (sz := dx.szOf σ) (m := l) hi (by omega)
        have hc : w.cell? ((⟨b, o', Option.none⟩ : Addr).add (i * dx.szOf σ + l)) = some u := by
          rw [Addr.add_mid, ← Nat.add_assoc]; exact q4
        refine ⟨u, ?_, hc, q5⟩
        rw [hn]
        simp [hlt, hc]
      have hall : ∀ j, j < rx.length * dx.szOf σ → ∃ u, w.cell? (ad.add j) = some u ∧ u.oneCell' = true := by
        intro j hj
        have hpos : 0 < dx.szOf σ := by
          rcases Nat.eq_zero_or_pos (dx.szOf σ) with e | e
          · rw [e] at hj; simp at hj
          · exact e
        have hi : j / dx.szOf σ < rx.length := Nat.div_lt_of_lt_mul (by rw [Nat.mul_comm]; exact hj)
        have hl := Nat.mod_lt j hpos
        have hrow : rx[j / dx.szOf σ]? = some rx[j / dx.szOf σ] := List.getElem?_eq_getElem hi
        have hrl := (hcells _ _ hrow).1
        obtain ⟨u, _, u2, _, _, _, u3⟩ := hget _ _ hrow (j % dx.szOf σ) (rx[j / dx.szOf σ][j % dx.szOf σ]'(by rw [hrl]; exact hl)) (List.getElem?_eq_getElem _)
        rw [Nat.div_add_mod'] at u2
        exact ⟨u, u2, u3⟩
      refine ⟨news, Src.ofSlice w he ad rx.length c news (by rw [hn]; simp) (fun j u hu => ?_) (fun u hu => ?_), fun i row hrow => ⟨(hcells i row hrow).1, fun l y hy => ?_⟩⟩
      · have hj := (List.getElem?_eq_some_iff.1 hu).1
        rw [hn] at hj; simp at hj
        obtain ⟨u', h1, _⟩ := hall j hj
        rw [hn] at hu
        simp [hj, h1] at hu
        rw [← hu]; exact h1
      · rw [hn] at hu
        obtain ⟨j, hj, rfl⟩ := List.mem_map.1 hu
        obtain ⟨u', h1, h2⟩ := hall j (by simpa using hj)
        rw [h1]; exact h2
      · obtain ⟨u, u1, _, u2, u3, u4, _⟩ := hget i row hrow l y hy
        exact ⟨u, u1, u2, u3, u4⟩

/-! ### append -/
def St.nilOwn (σ : St) (d sz : Nat) : St :=
  match cellIn (σ.rows (.s d)) (0, 0) with
  | some .nil => (σ.setTop (.s d) 0 0 (.sl true sz [])).bump (.s d) 0 0
  | _ => σ

theorem R.nilOwnK (h : R G σ a w) (d sz : Nat) : ∃ G', R G' (σ.nilOwn d sz) a w ∧ Kp [.s d] G w G' w ∧ Fx σ (σ.nilOwn d sz) G G' ∧ G'.imm = G.imm := by
  unfold St.nilOwn
  split
  · next hc =>
    refine ⟨_, h.nilOwn sz hc, ⟨rfl, rfl, rfl, Nat.le_refl _, fun b hb h0 => ⟨rfl, by simp [Gh.drop, h0]⟩, fun b x π hx h0 => ⟨rfl, Gh.drop_own.2 ⟨h0, fun e => absurd (by simp [e]) hx⟩⟩, fun _ hb => hb, fun _ hb => .inl hb⟩, Fx.of setTop_n (fun _ _ => rfl) (fun i _ ds' hd' => ⟨ds', hd'⟩) (fun _ _ _ _ => rfl), rfl⟩
  · exact ⟨G, h, (Kp.refl G w).mono (fun _ h => by cases h), Fx.refl σ G, rfl⟩

def appendS (P : Program) (σ : St) (t tx : TypeId) (s x : Operand) (d : Nat) : Option (St × List Pl) :=
  match tel P t, σ.rd s, σ.rd x with
  | some e, .one db, .one dx => match tsz P e, tbytes P e, tzero P e, dx.srcRows σ with
    | some sz, some by_, some zs, some rx =>
      if isSliceT P tx = true ∧ zs.length = sz ∧ (rx = [] ∨ dx.szOf σ = sz) ∧ rx.all (·.all (·.okF)) = true then match assignS σ d (.one db) with
        | some (σ1, t1) => match (σ1.nilOwn d sz).sl d with
          | .one (.sl true sz' rows) => if sz' = sz ∧ (rows.length + rx.length) * by_ ≤ 140737488355328 ∧ rows.length + rx.length ≤ 9223372036854775807 then
              some (((σ1.nilOwn d sz).setTop (.s d) 0 0 (.sl true sz (rows ++ rx))).bump (.s d) 0 0, t1 ++ [.s d]) else Option.none
          | _ => Option.none
        | Option.none => Option.none
      else Option.none
    | _, _, _, _ => Option.none
  | _, _, _ => Option.none

theorem append_out (h : R G σ a w) {t tx : TypeId} {s x : Operand} (ho : o.op = .call { callee := .builtin .append, args := #[s, x], argTypes := #[t, tx] }) {d : Nat} (hd : o.dst = some d) {σ' : St} {tt : List Pl}
    (hs : appendS P σ t tx s x d = some (σ', tt)) : Out P G σ a w o σ' tt := by
  unfold appendS at hs
  split at hs
  · next e db dx he hrs hrx =>
    split at hs
    · next sz by_ zs rx hsz hby hz hsrc =>
      split at hs
      · next hc =>
        obtain ⟨htx, hzl, hszo, hk⟩ := hc
        split at hs
        · next σ1 t1 has =>
          split at hs
          · next sz' rows hsl =>
            split at hs
            · next hb =>
              obtain ⟨rfl, hb1, hb2⟩ := hb
              simp only [Option.some.injEq, Prod.mk.injEq] at hs; obtain ⟨rfl, rfl⟩ := hs
              unfold assignS at has
              split at has
              · next hn =>
                simp only [Option.some.injEq, Prod.mk.injEq] at has; obtain ⟨rfl, rfl⟩ := has
                have hsv := h.rd s
                rw [hrs] at hsv
                have hxv := h.rd x
                rw [hrx] at hxv
                obtain ⟨news, hn1, hn2⟩ := src_of (P := P) h (tells_one_iff.1 hxv).1 hsrc hk hszo htx
                obtain ⟨z, hz1, hz2⟩ := Option.bind_eq_some_iff.1 hz
                obtain ⟨i, hi, hz3⟩ := Option.bind_eq_some_iff.1 hz1
                obtain ⟨hl, hg⟩ := mapLit_spec hz2
                have hisz : i.size = sz' := by simpa [tsz, hi] using hsz
                have hib : i.bytes = by_ := by simpa [tbytes, hi] using hby
                have hzc : z.cells.size = sz' := by rw [← hzl, hl]; simp
                obtain ⟨G1, g1, g2, g3, g4, g5⟩ := h.putK hn hsv
                obtain ⟨G2, q1, q2, q3, q4⟩ := g1.claims (p := .s d) (k := 0) (SV.width (.one db)) 0
                obtain ⟨G3, r1, r2, r3, r4⟩ := q1.nilOwnK d sz'
                have himm : G3.imm = G.imm := by rw [r4, q3, g3]
                have hn3 : d < (((σ.put d (.one db)).claims (.s d) 0 0 (SV.width (.one db))).nilOwn d sz').n := by rw [r3.n, q4.n, g5.n]; exact hn
                obtain ⟨v', G4, w', k1, k2, k3, k4⟩ := r1.grow (d := d) hn3 hsl (tel_spec he) (ty := o.type) hi hz3 hisz hzc (x := a.eval x) (news := news) (by rw [hisz]; exact hn1) (tx := tx)
                  (by rw [himm]; exact hn2) (by rw [hib]; exact hb1) hb2
                have hval : (a.put (some d) (a.eval s)).tmps.getD d undef = a.eval s := getD_set_same _ _ _ _ (by rw [h.size]; exact hn)
                rw [hval] at k1
                rw [put_put] at k2
                refine ⟨_, G4, w', ?_, .inl ⟨v', rfl, by rw [hd]; exact k2⟩, (((g2.trans q2).trans r2).trans k3).mono (fun p hp => ?_), ((g5.trans q4).trans r3).trans k4⟩
                · rw [run_builtin ho]
                  simp only [builtin]
                  exact run_v2 (by simpa using k1)
                · simp only [List.mem_append, List.mem_cons, List.not_mem_nil, or_false] at hp ⊢
                  rcases hp with ((hp | hp) | hp) | hp <;> simp [hp]
              · cases has
            · cases hs
          · cases hs
        · cases hs
      · cases hs
    · cases hs
  · cases hs

/-! ### Bytes as a text -/
theorem gives_const' {sv : SV} {v : Value} (hr : ∀ w', SameR G w w' → (execOp a.eval o).run P w' = .ok (.value v) w') (ht : Tells G w σ sv v) : Gives P G σ a w o sv := ⟨v, hr, ht⟩

def numsRows : List (List D) → Option (List Int)
  | [] => some []
  | [.lit (.int .u8 n)] :: r => match numsRows r with
    | some ns => some (n :: ns)
    | Option.none => Option.none
  | _ => Option.none

theorem numsRows_spec : ∀ {rows : List (List D)} {ns : List Int}, numsRows rows = some ns → ns.length = rows.length ∧ ∀ (i : Nat) row, rows[i]? = some row → ∃ n, ns[i]? = some n ∧ row = [.lit (.int .u8 n)]
  | [], ns, h => by simp [numsRows] at h; subst h; exact ⟨rfl, fun i row hr => by simp at hr⟩
  | row :: r, ns, h => by
    unfold numsRows at h
    split at h
    · rename_i heq; cases heq
    · next n r' heq =>
      simp only [List.cons.injEq] at heq
      obtain ⟨rfl, rfl⟩ := heq
      split at h
      · next ns' h' =>
        simp only [Option.some.injEq] at h; subst h
        obtain ⟨q1, q2⟩ := numsRows_spec h'
        refine ⟨by simp [q1], fun i row hr => ?_⟩
        cases i with
        | zero => simp at hr; exact ⟨n, rfl, hr.symm⟩
        | succ i => simp at hr; obtain ⟨n', r1, r2⟩ := q2 i row hr; exact ⟨n', by simpa using r1, r2⟩
      · cases h
    · cases h

def isBytesT (P : Program) (t : TypeId) : Bool := match tel P t with
  | some e => match P.underlying e with
    | some (.int .u8) => true
    | _ => false
  | Option.none => false

def bytesS (P : Program) (σ : St) (s t : TypeId) (x : Operand) : Option SV :=
  if isBytesT P s = true ∧ isStringT P t = true then match σ.rd x with
    | .one dx => match dx.srcRows σ with
      | some rx => if rx.all (·.all (·.okF)) = true ∧ (rx = [] ∨ dx.szOf σ = 1) then match numsRows rx with
          | some ns => some (.one (.lit (.string (strOfNums ns))))
          | Option.none => Option.none
        else Option.none
      | Option.none => Option.none
    | _ => Option.none
  else Option.none

theorem bytes_gives (h : R G σ a w) {s t : TypeId} {x : Operand} (ho : o.op = .convert s t x) {sv : SV} (hs : bytesS P σ s t x = some sv) : Gives P G σ a w o sv := by
  unfold bytesS at hs
  split at hs
  · next hty =>
    obtain ⟨hb, ht⟩ := hty
    split at hs
    · next dx hrd =>
      split at hs
      · next rx hsrc =>
        split at hs
        · next hk =>
          obtain ⟨hk, hsz⟩ := hk
          split at hs
          · next ns hns =>
            simp only [Option.some.injEq] at hs; subst hs
            have hxv := h.rd x
            rw [hrd] at hxv
            obtain ⟨A, c, hv, hcells⟩ := src_cells h (tells_one_iff.1 hxv).1 hsrc hk
            obtain ⟨hl, hn⟩ := numsRows_spec hns
            have hdst := isStringT_spec ht
            obtain ⟨e, he1, he2⟩ : ∃ e, P.underlying s = some (.slice e) ∧ P.underlying e = some (.int .u8) := by
              unfold isBytesT at hb
              split at hb
              · next e he =>
                split at hb
                · next hu => exact ⟨e, tel_spec he, hu⟩
                · cases hb
              · cases hb
            refine gives_const' (v := .string (strOfNums ns)) (fun w' hw' => ?_) tells_lit
            simp only [execOp, ho, hv]
            refine run_v ?_
            cases rx with
            | nil =>
              have : ns = [] := by cases ns <;> simp_all
              subst this
              cases A with
              | none => exact run_convert_bytes_nil w' s e he1 he2 _ _ t hdst
              | some ad =>
                exact run_convert_bytes_back w' s t e ad c [] he1 he2 hdst (fun j hj => by simp at hj)
            | cons row0 rr =>
              obtain ⟨_, b, o', hA, hbi, _⟩ := hcells 0 row0 rfl
              have hsz1 : dx.szOf σ = 1 := hsz.resolve_left (by simp)
              rw [hA]
              refine run_convert_bytes_arg w' s e he1 he2 b o' _ c ns hl (fun i hi => ?_) t hdst
              obtain ⟨n, n1, n2⟩ := hn i (row0 :: rr)[i] (List.getElem?_eq_getElem hi)
              obtain ⟨_, b', o'', hA', _, hc⟩ := hcells i _ (List.getElem?_eq_getElem hi)
              rw [hA] at hA'; simp at hA'; obtain ⟨rfl, rfl⟩ := hA'
              obtain ⟨u, u1, u2, _⟩ := hc 0 (.lit (.int .u8 n)) (by rw [n2]; rfl)
              have := RO.lit.1 u2
              subst this
              rw [(hw' b hbi _).1]
              rw [hsz1] at u1
              simp only [Nat.mul_one, Nat.add_zero] at u1
              rw [u1]
              simp [List.getD, n1]
          · cases hs
        · cases hs
      · cases hs
    · cases hs
  · cases hs

end
end Go.AI

/-
  The abstract interpreter, part Ta: functions made of variables that nobody changes any more.
-/
namespace Go.AI
open Go.RowKit

def D.isRo : D → Bool
  | .lit _ => true
  | .nil => true
  | .sl false _ _ => true
  | .raddr _ => true
  | .clo _ _ => true
  | _ => false

def St.freezeVar (σ : St) (k : Nat) : St where
  n := σ.n
  sl := σ.sl
  vr i := if i = k then Option.none else σ.vr i
  sa := σ.sa
  sb := σ.sb
  sc := σ.sc
  tick := σ.tick

def Gh.freezeVar (G : Gh) (k : Nat) : Gh where
  val := G.val
  own b := if b = G.blk k then Option.none else G.own b
  imm b := G.imm b ∨ b = G.blk k
  blk := G.blk

section
variable {P : Program} {G : Gh} {σ : St} {a : Act} {w : World} {o : Oper} {k : Nat} {ds : List D}

theorem freezeVar_cell {p : Pl} {π : Path} {x : D} (h : (σ.freezeVar k).cell p π = some x) : p ≠ .v k ∧ σ.cell p π = some x := by
  by_cases hp : p = .v k
  · subst hp
    cases π with
    | nil => simp [St.cell] at h
    | cons ij π => simp [St.cell, St.rows, St.freezeVar, cellIn] at h
  · refine ⟨hp, ?_⟩
    rw [← h]
    refine (St.cell_congr ?_ π).symm
    cases p with
    | s i => rfl
    | v i =>
      have : i ≠ k := fun e => hp (by rw [e])
      simp [St.rows, St.freezeVar, this]

theorem freezeVar_stp {p : Pl} {π : Path} : (σ.freezeVar k).stp p π = σ.stp p π := by
  rcases π with _ | ⟨ij, _ | ⟨kl, π⟩⟩ <;> cases p <;> rfl

theorem freezeVar_carry (hk : σ.vr k = some (true, ds)) {u : Value} {x : D} (h : LocV G w σ u x) : LocV (G.freezeVar k) w (σ.freezeVar k) u x := by
  refine h.carry (fun _ hb => .inl hb) (fun b _ => SameAt.refl w b) (fun q ρ n rg _ h1 sz rows h2 => ⟨by rw [freezeVar_stp] at h1; exact h1, ⟨rows, (freezeVar_cell h2).2⟩, rfl⟩) (fun q ρ i j n _ h1 ad h2 => ⟨by rw [freezeVar_stp] at h1; exact h1, ?_⟩)
  refine h2.congr (fun _ i ds hq hi => ?_) (fun _ sz rows h3 => ⟨⟨rows, (freezeVar_cell h3).2⟩, rfl⟩)
  simp only [St.freezeVar] at hi
  split at hi
  · cases hi
  · exact ⟨⟨ds, hi⟩, rfl⟩

theorem R.freezeVar (h : R G σ a w) (hk : σ.vr k = some (true, ds)) : R (G.freezeVar k) (σ.freezeVar k) a w ∧ Kp [.v k] G w (G.freezeVar k) w ∧ Fx σ (σ.freezeVar k) G (G.freezeVar k) := by
  obtain ⟨g1, g2, g3⟩ := h.vars k ds hk
  have hne : ∀ b p π, G.own b = some (p, π) → (p, π) ≠ (Pl.v k, []) → b ≠ G.blk k := fun b p π hb hn e => by
    subst e; rw [g1] at hb; cases hb; exact hn rfl
  refine ⟨⟨h.size, h.defers, h.slots, fun i es hi => ?_, fun p π x hx => ?_, fun p ij kl ρ x hx => h.deep p ij kl ρ x (freezeVar_cell hx).2, fun b hb => ?_, fun b hb => ?_, fun b q hb => ?_, h.stA, h.stB, h.stC,
    fun p π q ρ n rg hx => h.stBor p π q ρ n rg (freezeVar_cell hx).2, fun p π q ρ i j n hx => h.stAddr p π q ρ i j n (freezeVar_cell hx).2⟩, ⟨rfl, rfl, rfl, Nat.le_refl _, fun b hb h0 => ⟨rfl, ?_⟩, fun b p π hp h0 => ⟨rfl, ?_⟩, fun b hb => .inl hb, fun b hb => ?_⟩,
    ⟨rfl, fun _ _ => rfl, fun i _ ds' hd => ⟨?_, fun _ => rfl⟩⟩⟩
  · simp only [St.freezeVar] at hi
    split at hi
    · cases hi
    · next hik =>
      obtain ⟨q1, q2, q3⟩ := h.vars i es hi
      refine ⟨?_, q2, q3⟩
      show (if G.blk i = G.blk k then Option.none else G.own (G.blk i)) = _
      rw [if_neg (hne _ _ _ q1 (fun e => hik (by cases e; rfl)))]; exact q1
  · obtain ⟨hp, hx⟩ := freezeVar_cell hx
    have hl := h.loc p π x hx
    by_cases hown : x.isOwn = true
    · cases x with
      | sl u sz rows =>
        cases u with
        | false => simp [D.isOwn] at hown
        | true =>
          refine LocOwn.carry (G' := G.freezeVar k) hl rfl (fun _ => rfl) (fun b hb => ?_) (fun b hb => SameAt.refl w b)
          show (if b = G.blk k then Option.none else G.own b) = _
          rw [if_neg (hne _ _ _ hb (fun e => hp (by cases e; rfl)))]; exact hb
      | _ => simp [D.isOwn] at hown
    · exact Loc.ofV (freezeVar_carry hk (hl.toV (by simpa using hown)))
  · show (if b = G.blk k then Option.none else G.own b) = _
    split
    · rfl
    · next hb' => exact h.immOwn b (hb.resolve_right hb')
  · rcases hb with hb | hb
    · exact h.immLt b hb
    · subst hb; exact h.ownLt _ _ g1
  · simp only [Gh.freezeVar] at hb
    split at hb
    · cases hb
    · exact h.ownLt b q hb
  · show (if b = G.blk k then Option.none else G.own b) = _
    split
    · rfl
    · exact h0
  · show (if b = G.blk k then Option.none else G.own b) = _
    rw [if_neg (hne _ _ _ h0 (fun e => hp (by cases e; simp)))]; exact h0
  · rcases hb with hb | hb
    · exact .inl hb
    · subst hb; exact .inr (.inr ⟨.v k, [], by simp, g1⟩)
  · simp only [St.freezeVar] at hd
    split at hd
    · cases hd
    · exact ⟨ds', hd⟩

/-- What is caught by a function. -/
def D.cap (σ : St) : D → Option (St × D × List Pl)
  | .addr (.v k) [] 0 0 n => if σ.sa k = n then match σ.vr k with
      | some (true, ds) => if ds.all (·.isRo) = true then some (σ.freezeVar k, .raddr ds, [.v k]) else Option.none
      | _ => Option.none
    else Option.none
  | .lit v => some (σ, .lit v, [])
  | .nil => some (σ, .nil, [])
  | .sl false sz rows => some (σ, .sl false sz rows, [])
  | .raddr row => some (σ, .raddr row, [])
  | .clo g caps => some (σ, .clo g caps, [])
  | _ => Option.none

theorem isRo_ro {v : Value} {x : D} (h : LocV G w σ v x) (hx : x.isRo = true) : RO G.imm w x v := by
  cases x with
  | lit u => exact h
  | nil => exact h
  | sl u sz rows => cases u with
    | true => exact h.elim
    | false => exact h
  | raddr row => exact h
  | clo g caps => exact h
  | _ => simp [D.isRo] at hx

theorem cap_spec (h : R G σ a w) {d : D} {v : Value} (hv : LocV G w σ v d) {σ' : St} {d' : D} {t : List Pl} (hs : d.cap σ = some (σ', d', t)) :
    ∃ G', R G' σ' a w ∧ Kp t G w G' w ∧ Fx σ σ' G G' ∧ RO G'.imm w d' v ∧ (∀ u x, LocV G w σ u x → LocV G' w σ' u x) ∧ (∀ b, G.imm b → G'.imm b) ∧ σ'.n = σ.n := by
  have keep : ∀ {x : D}, d = x → x.isRo = true → (some (σ, x, ([] : List Pl)) = some (σ', d', t)) → ∃ G', R G' σ' a w ∧ Kp t G w G' w ∧ Fx σ σ' G G' ∧ RO G'.imm w d' v ∧ (∀ u x, LocV G w σ u x → LocV G' w σ' u x) ∧ (∀ b, G.imm b → G'.imm b) ∧ σ'.n = σ.n := by
    intro x e hx hs
    simp only [Option.some.injEq, Prod.mk.injEq] at hs; obtain ⟨rfl, rfl, rfl⟩ := hs
    subst e
    exact ⟨G, h, Kp.refl G w, Fx.refl σ G, isRo_ro hv hx, fun _ _ hx => hx, fun _ hb => hb, rfl⟩
  unfold D.cap at hs
  split at hs
  · next k n =>
    split at hs
    · next hst =>
      split at hs
      · next ds hk =>
        split at hs
        · next hro =>
          simp only [Option.some.injEq, Prod.mk.injEq] at hs; obtain ⟨rfl, rfl, rfl⟩ := hs
          obtain ⟨r1, r2, r3⟩ := h.freezeVar hk
          obtain ⟨g1, g2, g3⟩ := h.vars k ds hk
          have hp : v = .pointer (some ⟨G.blk k, 0, Option.none⟩) := hv hst ⟨G.blk k, 0, Option.none⟩ ⟨k, ds, rfl, hk, rfl, rfl⟩
          refine ⟨_, r1, r2, r3, raddr_iff.2 ⟨G.blk k, 0, hp, .inr rfl, fun j x hx => ?_⟩, fun u x hx => freezeVar_carry hk hx, fun b hb => .inl hb, rfl⟩
          have hj := (List.getElem?_eq_some_iff.1 hx).1
          refine ⟨_, by rw [Nat.zero_add]; exact g3 j hj, ?_⟩
          have hc : σ.cell (.v k) [(0, j)] = some x := by simp [St.cell, St.rows, hk, cellIn, hx, D.atU]
          have hxr := List.all_eq_true.1 hro x (List.mem_of_getElem? hx)
          have hl := (h.loc _ _ _ hc).toV (by cases x with | sl u _ _ => cases u <;> simp_all [D.isRo, D.isOwn] | _ => rfl)
          exact (isRo_ro hl hxr).mono (fun b hb => .inl hb) (fun b _ => SameAt.refl w b)
        · cases hs
      · cases hs
    · cases hs
  · exact keep rfl rfl hs
  · exact keep rfl rfl hs
  · exact keep rfl rfl hs
  · exact keep rfl rfl hs
  · exact keep rfl rfl hs
  · cases hs

def capL (σ : St) : List D → Option (St × List D × List Pl)
  | [] => some (σ, [], [])
  | d :: r => match d.cap σ with
    | some (σ1, d', t1) => match capL σ1 r with
      | some (σ2, r', t2) => some (σ2, d' :: r', t1 ++ t2)
      | Option.none => Option.none
    | Option.none => Option.none

theorem capL_spec : ∀ (ds : List D) (vs : List Value) {G : Gh} {σ : St} (h : R G σ a w), vs.length = ds.length → (∀ (j : Nat) x, ds[j]? = some x → ∃ u, vs[j]? = some u ∧ LocV G w σ u x) → ∀ σ' ds' t, capL σ ds = some (σ', ds', t) →
    ∃ G', R G' σ' a w ∧ Kp t G w G' w ∧ Fx σ σ' G G' ∧ ds'.length = ds.length ∧ (∀ (m : Nat) x, ds'[m]? = some x → ∃ u, vs[m]? = some u ∧ RO G'.imm w x u) ∧ (∀ b, G.imm b → G'.imm b) ∧ σ'.n = σ.n
  | [], vs, G, σ, h, hl, hc, σ', ds', t, hs => by
    simp only [capL, Option.some.injEq, Prod.mk.injEq] at hs; obtain ⟨rfl, rfl, rfl⟩ := hs
    exact ⟨G, h, Kp.refl G w, Fx.refl σ G, rfl, fun m x hx => by simp at hx, fun _ hb => hb, rfl⟩
  | d :: r, vs, G, σ, h, hl, hc, σ', ds', t, hs => by
    simp only [capL] at hs
    split at hs
    · next σ1 d' t1 h1 =>
      split at hs
      · next σ2 r' t2 h2 =>
        simp only [Option.some.injEq, Prod.mk.injEq] at hs; obtain ⟨rfl, rfl, rfl⟩ := hs
        cases vs with
        | nil => simp at hl
        | cons v vs =>
          obtain ⟨u, q1, q2⟩ := hc 0 d rfl
          simp at q1; subst q1
          obtain ⟨G1, g1, g2, g3, g4, g5, g6, g7⟩ := cap_spec h q2 h1
          obtain ⟨G2, k1, k2, k3, k4, k5, k6, k7⟩ := capL_spec r vs g1 (by simpa using hl) (fun j x hx => by
            obtain ⟨u, r1, r2⟩ := hc (j + 1) x (by simpa using hx)
            exact ⟨u, by simpa using r1, g5 u x r2⟩) _ _ _ h2
          refine ⟨G2, k1, g2.trans k2, g3.trans k3, by simp [k4], fun m x hx => ?_, fun b hb => k6 b (g6 b hb), k7.trans g7⟩
          cases m with
          | zero => simp at hx; subst hx; exact ⟨v, rfl, g4.mono k6 (fun b _ => SameAt.refl w b)⟩
          | succ m =>
            simp at hx
            obtain ⟨u, r1, r2⟩ := k5 m x hx
            exact ⟨u, by simpa using r1, r2⟩
      · cases hs
    · cases hs

theorem RO.clo {imm : Nat → Prop} {w : World} {g : FuncId} {caps : List D} {vs : List Value} (hl : vs.length = caps.length) (h : ∀ (j : Nat) c, caps[j]? = some c → ∃ v, vs[j]? = some v ∧ RO imm w c v) :
    RO imm w (.clo g caps) (.func (.func g) #[] vs.toArray) := by
  classical
  have hch : ∀ j : Nat, ∃ f : Path → Value, (∀ v, vs[j]? = some v → f [] = v) ∧ ∀ c, caps[j]? = some c → ∀ π d', c.at π = some d' → ROloc imm w f π d' := by
    intro j
    cases hc : caps[j]? with
    | none =>
      refine ⟨fun _ => (vs[j]?).getD undef, fun v hv => by simp [hv], fun c hc' => by cases hc'⟩
    | some c =>
      obtain ⟨v, hv, f, hf1, hf2⟩ := h j c hc
      exact ⟨f, fun v' hv' => by rw [hv] at hv'; cases hv'; exact hf1, fun c' hc' => by cases hc'; exact hf2⟩
  refine ⟨fun π => match π with | [] => .func (.func g) #[] vs.toArray | ij :: ρ => (Classical.choose (hch ij.2)) ρ, rfl, fun π d' hd => ?_⟩
  cases π with
  | nil =>
    cases hd
    show Value.func _ _ _ = _
    congr 2
    refine List.ext_getElem (by simp [hl]) fun j h1 h2 => ?_
    simp only [List.getElem_map, List.getElem_range]
    exact ((Classical.choose_spec (hch j)).1 _ (List.getElem?_eq_getElem h1)).symm
  | cons ij ρ =>
    simp only [D.at] at hd
    cases hcell : cellIn (D.subs (.clo g caps)) ij with
    | none => rw [hcell] at hd; cases hd
    | some d =>
      rw [hcell] at hd
      obtain ⟨i, j⟩ := ij
      obtain ⟨row, hr, hdd⟩ := cellIn_some.1 hcell
      cases i with
      | succ i => simp [D.subs] at hr
      | zero =>
        simp [D.subs] at hr; subst hr
        have := (Classical.choose_spec (hch j)).2 d hdd ρ d' hd
        cases d' <;> exact this

def capOf (σ : St) : List Operand → Option (List D)
  | [] => some []
  | x :: r => match σ.rd x, capOf σ r with
    | .one d, some ds => some (d :: ds)
    | _, _ => Option.none

theorem capOf_spec (h : R G σ a w) : ∀ {xs : List Operand} {ds : List D}, capOf σ xs = some ds → ds.length = xs.length ∧ ∀ (j : Nat) x, ds[j]? = some x → ∃ u, (xs.map a.eval)[j]? = some u ∧ LocV G w σ u x
  | [], ds, hs => by simp [capOf] at hs; subst hs; exact ⟨rfl, fun j x hx => by simp at hx⟩
  | x :: r, ds, hs => by
    simp only [capOf] at hs
    split at hs
    · next d ds' hd hr =>
      simp only [Option.some.injEq] at hs; subst hs
      obtain ⟨h1, h2⟩ := capOf_spec h hr
      refine ⟨by simp [h1], fun j y hy => ?_⟩
      cases j with
      | zero =>
        simp at hy; subst hy
        have hv := h.rd x
        rw [hd] at hv
        exact ⟨a.eval x, rfl, (tells_one_iff.1 hv).1⟩
      | succ j => simpa using h2 j y (by simpa using hy)
    · cases hs

def makeFuncS (P : Program) (σ : St) (fn : Fn) (first captured : List Operand) (d : Nat) : Option (St × List Pl) :=
  match fn, first, capOf σ captured with
  | .func g, [], some ds => match capL σ ds with
    | some (σ1, caps, t) => if d < σ.n then some (σ1.put d (.one (.clo g caps)), t ++ [.s d]) else Option.none
    | Option.none => Option.none
  | _, _, _ => Option.none

theorem makeFunc_out (h : R G σ a w) {fn : Fn} {first captured : Array Operand} {d : Nat} (ho : o.op = .makeFunc fn first captured) (hd : o.dst = some d) {σ' : St} {t : List Pl} (hs : makeFuncS P σ fn first.toList captured.toList d = some (σ', t)) : Out P G σ a w o σ' t := by
  unfold makeFuncS at hs
  split at hs
  · next g ds hf hc =>
    split at hs
    · next σ1 caps t1 hcap =>
      split at hs
      · next hn =>
        simp only [Option.some.injEq, Prod.mk.injEq] at hs; obtain ⟨rfl, rfl⟩ := hs
        obtain ⟨c1, c2⟩ := capOf_spec h hc
        obtain ⟨G1, q1, q2, q3, q4, q5, q6, q7⟩ := capL_spec ds (captured.toList.map a.eval) h (by simp [c1]) c2 _ _ _ hcap
        have hro : RO G1.imm w (.clo g caps) (.func (.func g) #[] (captured.toList.map a.eval).toArray) := RO.clo (by simp [q4, c1]) q5
        obtain ⟨G2, p1, p2, _, _, p5⟩ := q1.putK (d := d) (by rw [q7]; exact hn) (sv := .one (.clo g caps)) (v := .func (.func g) #[] (captured.toList.map a.eval).toArray) (tells_one hro trivial)
        have hfirst : first = #[] := by
          have : first.toList = [] := hf
          exact Array.toList_eq_nil_iff.1 this
        refine ⟨.value (.func (.func g) #[] (captured.toList.map a.eval).toArray), G2, w, ?_, .inl ⟨_, rfl, by rw [hd]; exact p1⟩, q2.trans p2, q3.trans p5⟩
        simp only [execOp, ho]
        refine run_v ?_
        subst hfirst
        have e : (captured.toList.map a.eval).toArray = captured.map a.eval := by rw [← Array.toList_map]
        rw [e]
        simp [Instr.makeFunc, pure, Sem.run]
      · cases hs
    · cases hs
  · cases hs

end
end Go.AI

/-
  The abstract interpreter, part Tb: parts of slices and of strings.
-/
namespace Go.AI
open Go.RowKit

def bndS (σ : St) (x : Option Operand) (dflt : Nat) : Option Nat := match x with
  | Option.none => some dflt
  | some o => match σ.rd o with
    | .one (.lit (.int _ i)) => if 0 ≤ i then some i.toNat else Option.none
    | _ => Option.none

def partD (l h sz : Nat) : D → Option D
  | .sl false _ rows => some (.sl false sz ((rows.take h).drop l))
  | .nil => some .nil
  | .bor p π n rg => match rg with
    | Option.none => some (.bor p π n (some (l, h)))
    | some (0, _) => some (.bor p π n (some (l, h)))
    | _ => Option.none
  | _ => Option.none

def sliceS (P : Program) (σ : St) (t : TypeId) (x : Operand) (lo hi : Option Operand) : Option SV :=
  match σ.rd x with
  | .one (.lit (.string s)) => if isStringT P t = true then match bndS σ lo 0, bndS σ hi s.size with
      | some l, some h => if l ≤ h ∧ h ≤ s.size then some (.one (.lit (.string (s.extract l h)))) else Option.none
      | _, _ => Option.none
    else Option.none
  | .one d => match tel P t, σ.rowsOf d with
    | some e, some rows => match tsz P e, bndS σ lo 0, bndS σ hi rows.length with
      | some sz, some l, some h => if l ≤ h ∧ h ≤ rows.length ∧ (rows = [] ∨ d.szOf σ = sz) then match partD l h sz d with
          | some d' => some (.one d')
          | Option.none => Option.none
        else Option.none
      | _, _, _ => Option.none
    | _, _ => Option.none
  | _ => Option.none

theorem RO.range {imm : Nat → Prop} {w : World} {u : Bool} {sz : Nat} {rows : List (List D)} {v : Value} (h : RO imm w (.sl u sz rows) v) {lo hi : Nat} (h1 : lo ≤ hi) (h2 : hi ≤ rows.length) :
    RO imm w (.sl false sz ((rows.take hi).drop lo)) (rgval (some (lo, hi)) sz v) := by
  obtain ⟨f, rfl, hf⟩ := h
  obtain ⟨A, c, h3, h4, h5⟩ := hf [] _ rfl
  have hl : ((rows.take hi).drop lo).length = hi - lo := by simp; omega
  rw [h3]
  by_cases hc : c = lo
  · have : (rows.take hi).drop lo = [] := by rw [← List.length_eq_zero_iff, hl]; omega
    rw [this]
    simp only [rgval]
    rw [show hi - lo = 0 by omega]
    exact RO.sliceNone
  · rcases h5 with h5 | ⟨b, o, h5, h6, h7⟩
    · have : (rows.take hi).drop lo = [] := by rw [h5]; simp
      rw [this]
      have : hi - lo = 0 := by rw [h5] at h2; simp at h2; omega
      simp only [rgval, this]
      exact RO.sliceNone
    · have hadd : ((⟨b, o, Option.none⟩ : Addr).add (lo * sz)) = ⟨b, o + lo * sz, Option.none⟩ := Addr.add_mid b o _
      simp only [rgval, if_neg hc, h5, Option.map_some, hadd]
      rw [← hl]
      have hget : ∀ (i : Nat) row, ((rows.take hi).drop lo)[i]? = some row → rows[lo + i]? = some row := fun i row hr => by
        rw [List.getElem?_drop, List.getElem?_take] at hr
        split at hr
        · exact hr
        · cases hr
      refine RO.slice (fun i j => f [(lo + i, j)]) (by rw [hl]; omega) h6 (fun i row hr => ⟨(h7 _ row (hget i row hr)).1, fun j hj => ?_⟩) (fun i j d hd => ?_)
      · have := (h7 _ row (hget i row hr)).2 j hj
        rw [Nat.add_mul] at this
        rw [show o + lo * sz + i * sz + j = o + (lo * sz + i * sz) + j by omega]
        exact this
      · obtain ⟨row, hr, hd⟩ := cellIn_some.1 hd
        exact RO.sub hf (cellIn_some.2 ⟨row, hget i row hr, hd⟩)

section
variable {P : Program} {G : Gh} {σ : St} {a : Act} {w : World} {o : Oper}

theorem bndS_run (h : R G σ a w) {x : Option Operand} {dflt n : Nat} (hs : bndS σ x dflt = some n) : (x = Option.none ∧ n = dflt) ∨ ∃ o k, x = some o ∧ a.eval o = .int k (n : Int) := by
  unfold bndS at hs
  split at hs
  · simp at hs; exact .inl ⟨rfl, hs.symm⟩
  · next o =>
    split at hs
    · next k i hr =>
      split at hs
      · next h0 =>
        simp only [Option.some.injEq] at hs; subst hs
        refine .inr ⟨o, k, rfl, ?_⟩
        rw [litOf h hr]
        congr 1
        omega
      · cases hs
    · cases hs

theorem bounds_run (h : R G σ a w) {lo hi : Option Operand} {len cap l hh : Nat} (h1 : bndS σ lo 0 = some l) (h2 : bndS σ hi len = some hh) (hl : l ≤ hh) (hc : hh ≤ cap) (b : Bool) (w' : World) :
    (Instr.sliceBounds b len cap (lo.map a.eval) (hi.map a.eval) Option.none).run P w' = .ok (l, hh, cap) w' := by
  rcases bndS_run h h2 with ⟨rfl, rfl⟩ | ⟨o2, k2, rfl, e2⟩ <;> rcases bndS_run h h1 with ⟨rfl, rfl⟩ | ⟨o1, k1, rfl, e1⟩
  · simp [Instr.sliceBounds, pure, Sem.run]
  · have p1 : ((l : Int) ≤ (hh : Int)) := by omega
    simp [Instr.sliceBounds, Instr.sliceBound, asIntOf, e1, p1, hl]
  · have p2 : ((hh : Int) ≤ (cap : Int)) := by omega
    simp [Instr.sliceBounds, Instr.sliceBound, asIntOf, e2, p2, hc]
  · have p1 : ((l : Int) ≤ (hh : Int)) := by omega
    have p2 : ((hh : Int) ≤ (cap : Int)) := by omega
    simp [Instr.sliceBounds, Instr.sliceBound, asIntOf, e1, e2, p1, p2, hl, hc]

theorem tsz_run {e : TypeId} {sz : Nat} (h : tsz P e = some sz) (w' : World) : (sizeOf e).run P w' = .ok sz w' := by
  unfold tsz at h
  simp only [Option.map_eq_some_iff] at h
  obtain ⟨i, h1, h2⟩ := h
  simp [sizeOf, typeInfo, h1, h2]

theorem slice_gives (h : R G σ a w) {t : TypeId} {x : Operand} {lo hi : Option Operand} (ho : o.op = .slice t x lo hi Option.none) {sv : SV} (hs : sliceS P σ t x lo hi = some sv) : Gives P G σ a w o sv := by
  unfold sliceS at hs
  split at hs
  · next s hx =>
    have hv := litOf h hx
    split at hs
    · next ht =>
      split at hs
      · next l hh h1 h2 =>
        split at hs
        · next hc =>
          simp only [Option.some.injEq] at hs; subst hs
          refine gives_const (fun w' => ?_) tells_lit
          simp only [execOp, ho, hv]
          refine run_v ?_
          have hu := isStringT_spec ht
          have hb := bounds_run (P := P) h h1 h2 hc.1 hc.2 false w'
          have hb2 : Instr.sliceBounds false s.size s.size (lo.map a.eval) (hi.map a.eval) Option.none = Instr.sliceBounds false s.size s.size (Option.map a.eval lo) (Option.map a.eval hi) Option.none := rfl
          simp [Instr.sliceAt, Instr.slice, run_underlying hu, hb]
        · cases hs
      · cases hs
    · cases hs
  · next d _ hx =>
    split at hs
    · next e rows he hr =>
      split at hs
      · next sz l hh hsz h1 h2 =>
        split at hs
        · next hc =>
          obtain ⟨c1, c2, c3⟩ := hc
          split at hs
          · next d' hd' =>
            simp only [Option.some.injEq] at hs; subst hs
            have hrd := h.rd x
            rw [hx] at hrd
            obtain ⟨hloc, hrf⟩ := tells_one_iff.1 hrd
            obtain ⟨A, c, hv, hlc⟩ := rowsOf_val h hloc hr
            have hu := tel_spec he
            have hrun : ∀ w', (execOp a.eval o).run P w' = .ok (.value (rgval (some (l, hh)) sz (a.eval x))) w' := fun w' => by
              simp only [execOp, ho]
              refine run_v ?_
              have hb := bounds_run (P := P) (len := rows.length) (cap := c) h h1 h2 c1 (by omega) true w'
              simp [Instr.sliceAt, Instr.slice, run_underlying hu, hv, hb, tsz_run hsz, rgval, pure, Sem.run]
            refine gives_const hrun (tells_one ?_ ?_)
            · unfold partD at hd'
              split at hd'
              · next sz' rows' _ =>
                simp only [Option.some.injEq] at hd'; subst hd'
                simp only [St.rowsOf, Option.some.injEq] at hr; subst hr
                rcases c3 with c3 | c3
                · subst c3
                  have : (([] : List (List D)).take hh).drop l = [] := by simp
                  rw [this]
                  have h0 : hh = 0 ∧ l = 0 := by simp at c2; omega
                  rw [hv]
                  simp only [rgval, h0.1, h0.2, Nat.sub_zero]
                  exact RO.sliceNone
                · simp only [D.szOf] at c3; subst c3
                  exact RO.range (show RO G.imm w (.sl false sz' rows') _ from hloc) c1 c2
              · simp only [Option.some.injEq] at hd'; subst hd'
                simp only [St.rowsOf, Option.some.injEq] at hr; subst hr
                have h0 : hh = 0 ∧ l = 0 := by simp at c2; omega
                obtain ⟨f, hf1, hf2⟩ := (show RO G.imm w .nil (a.eval x) from hloc)
                have hnil : a.eval x = .slice Option.none 0 0 := by rw [← hf1]; exact hf2 [] .nil rfl
                rw [hnil, h0.1, h0.2]
                show RO G.imm w .nil _
                refine ⟨fun _ => .slice Option.none 0 0, rfl, fun π d' hd => ?_⟩
                cases π with
                | nil => cases hd; rfl
                | cons ij π => simp [D.at, D.subs, cellIn] at hd
              · next p π n rg _ =>
                have key : ∀ sz' rows', σ.stp p π = n → σ.cell p π = some (.sl true sz' rows') → (rg = Option.none ∨ ∃ h0, rg = some (0, h0)) → rgval (some (l, hh)) sz (a.eval x) = rgval (some (l, hh)) sz' (G.val p π) := by
                  intro sz' rows' hst hcell hrg
                  have hvx := hloc hst sz' rows' hcell
                  have hszo : (D.bor p π n rg).szOf σ = sz' := by simp [D.szOf, hcell]
                  obtain ⟨A0, c0, e0⟩ : ∃ A0 c0, G.val p π = .slice A0 rows'.length c0 := by
                    have hl := h.loc p π _ hcell
                    rcases (show LocOwn G w p π sz' rows' from hl) with ⟨e1, e2⟩ | ⟨b, o', c0, e1, _⟩
                    · exact ⟨Option.none, 0, by rw [e2, e1]; rfl⟩
                    · exact ⟨_, c0, e1⟩
                  have hse : rows = [] ∨ sz' = sz := by rw [hszo] at c3; exact c3
                  rw [hvx, e0]
                  have hzero : rows = [] → l = 0 ∧ hh = 0 := fun e => by rw [e] at c2; simp at c2; omega
                  rcases hrg with rfl | ⟨h0, rfl⟩
                  · simp only [rgval]
                    rcases hse with hse | hse
                    · obtain ⟨rfl, rfl⟩ := hzero hse; simp
                    · rw [hse]
                  · simp only [rgval, Nat.zero_mul]
                    have hadd0 : ∀ A : Addr, A.add 0 = A := fun A => by cases A; rfl
                    by_cases hc0 : c0 = 0
                    · subst hc0
                      have : l = 0 ∧ hh = 0 := by
                        refine hzero ?_
                        have hlen : rows.length ≤ 0 := by
                          rw [hvx, e0] at hv
                          simp only [rgval] at hv
                          simp only [Value.slice.injEq] at hv
                          omega
                        exact List.length_eq_zero_iff.1 (by omega)
                      obtain ⟨rfl, rfl⟩ := this
                      simp
                    · have hmap : A0.map (fun A => A.add 0) = A0 := by cases A0 <;> simp [hadd0]
                      simp only [hc0, if_false, Nat.sub_zero, hmap]
                      rcases hse with hse | hse
                      · obtain ⟨rfl, rfl⟩ := hzero hse; simp
                      · rw [hse]
                split at hd'
                · simp only [Option.some.injEq] at hd'; subst hd'
                  intro hst sz' rows' hcell
                  exact key sz' rows' hst hcell (.inl rfl)
                · next h0 _ =>
                  simp only [Option.some.injEq] at hd'; subst hd'
                  intro hst sz' rows' hcell
                  exact key sz' rows' hst hcell (.inr ⟨h0, rfl⟩)
                · cases hd'
              · cases hd'
            · unfold partD at hd'
              split at hd'
              · simp only [Option.some.injEq] at hd'; subst hd'; trivial
              · simp only [Option.some.injEq] at hd'; subst hd'; trivial
              · split at hd'
                · simp only [Option.some.injEq] at hd'; subst hd'; exact hrf
                · simp only [Option.some.injEq] at hd'; subst hd'; exact hrf
                · cases hd'
              · cases hd'
          · cases hs
        · cases hs
      · cases hs
    · cases hs
  · cases hs

end
end Go.AI

/-
  The abstract interpreter, part Tc: slices that are owned inside of slices that are owned.
-/
namespace Go.AI
open Go.RowKit

/-- A walk may ask for it: what is put into a slice goes there with all that it owns. -/
def St.deepM (σ : St) : Bool := decide (¬ σ.sa 0 = 0)

/-- What is owned by nobody known to the state, as a tree; 'om': where in the tree a block stands. -/
def TLoc (imm : Nat → Prop) (w : World) (om : Nat → Option Path) (f : Path → Value) (π : Path) : D → Prop
  | .sl true sz rows => (rows = [] ∧ f π = .slice Option.none 0 0) ∨ ∃ (b o c : Nat), f π = .slice (some ⟨b, o, Option.none⟩) rows.length c ∧ rows.length ≤ c ∧ om b = some π ∧ w.there b o (c * sz) ∧
      ∀ i row, rows[i]? = some row → row.length = sz ∧ ∀ j, j < sz → w.cell? ⟨b, o + i * sz + j, Option.none⟩ = some (f (π ++ [(i, j)]))
  | d => RO imm w d (f π) ∧ d.solid = true

def Tree (imm : Nat → Prop) (w : World) (om : Nat → Option Path) (f : Path → Value) (x : D) : Prop := ∀ π d', x.atU π = some d' → TLoc imm w om f π d'

theorem TLoc.ofRO {imm : Nat → Prop} {w : World} {om : Nat → Option Path} {f : Path → Value} {π : Path} {d : D} (h : RO imm w d (f π)) (hs : d.solid = true) (ho : d.isOwn = false) : TLoc imm w om f π d := by
  cases d with
  | sl u sz rows => cases u with
    | true => simp [D.isOwn] at ho
    | false => exact ⟨h, hs⟩
  | _ => exact ⟨h, hs⟩

theorem TLoc.ro {imm : Nat → Prop} {w : World} {om : Nat → Option Path} {f : Path → Value} {π : Path} {d : D} (h : TLoc imm w om f π d) (ho : d.isOwn = false) : RO imm w d (f π) ∧ d.solid = true := by
  cases d with
  | sl u sz rows => cases u with
    | true => simp [D.isOwn] at ho
    | false => exact h
  | _ => exact h

section
variable {P : Program} {G : Gh} {σ : St} {a : Act} {w : World} {o : Oper}

/-- What a top cell owns, as a tree. -/
theorem R.tree (h : R G σ a w) {q : Pl} {k j sz : Nat} {rows : List (List D)} (hc : cellIn (σ.rows q) (k, j) = some (.sl true sz rows)) :
    Tree G.imm w (fun b => (G.own b).bind (under q k j)) (fun ρ => G.val q ((k, j) :: ρ)) (.sl true sz rows) := by
  have hcell : ∀ ρ, σ.cell q ((k, j) :: ρ) = D.atU (.sl true sz rows) ρ := fun ρ => by simp [St.cell, hc]
  intro π x hx
  have hl := h.loc q ((k, j) :: π) x (by rw [hcell]; exact hx)
  by_cases ho : x.isOwn = true
  · cases x with
    | sl u sz' rows' =>
      cases u with
      | false => simp [D.isOwn] at ho
      | true =>
        rcases hl with ⟨e1, e2⟩ | ⟨b, o, c, e1, e2, e3, e4, e5⟩
        · exact .inl ⟨e1, e2⟩
        · exact .inr ⟨b, o, c, e1, e2, by simp only [e3, Option.bind_some]; exact under_some.2 ⟨rfl, rfl⟩, e4, e5⟩
    | _ => simp [D.isOwn] at ho
  · have ho' : x.isOwn = false := by simpa using ho
    cases π with
    | nil => simp [D.atU] at hx; subst hx; simp [D.isOwn] at ho'
    | cons ij π =>
      have hsol := h.deep q (k, j) ij π x (by rw [hcell]; exact hx)
      exact TLoc.ofRO ((hl.toV ho').solid hsol) hsol ho'

/-- Cells that hold known values are told of as the trees that they are. -/
theorem R.unhide (h : R G σ a w) {p : Pl} {k j sz : Nat} {rows rowsL : List (List D)} (hc : cellIn (σ.rows p) (k, j) = some (.sl true sz rowsL))
    (hlen : rows.length = rowsL.length) (hrow : ∀ (i : Nat) (row : List D), rows[i]? = some row → row.length = sz)
    {om : Nat → Nat → Nat → Option Path}
    (hx : ∀ i l x, cellIn rows (i, l) = some x → cellIn rowsL (i, l) = some x ∨ (∃ f, cellIn rowsL (i, l) = some (.lit (f [])) ∧ Tree G.imm w (om i l) f x ∧ x.solid = true))
    (hdis : ∀ i l i' l' b π π', om i l b = some π → om i' l' b = some π' → i = i' ∧ l = l')
    (hfree : ∀ i l b π, om i l b = some π → G.own b = Option.none ∧ ¬ G.imm b ∧ b < w.heap.size) :
    ∃ G', R G' ((σ.setTop p k j (.sl true sz rows)).bumpC p k j) a w ∧ G'.imm = G.imm ∧ G'.blk = G.blk ∧ (∀ q kl, G'.val q [kl] = G.val q [kl]) ∧
      (∀ b q, G.own b = some q → G'.own b = some q) ∧ (∀ b, G.own b = Option.none → G'.own b = Option.none ∨ ∃ i l π, om i l b = some π) ∧ Fx σ ((σ.setTop p k j (.sl true sz rows)).bumpC p k j) G G' := by
  classical
  have hcellL : ∀ ρ, σ.cell p ((k, j) :: ρ) = D.atU (.sl true sz rowsL) ρ := fun ρ => by simp [St.cell, hc]
  have hcl : ∀ i l, σ.cell p ((k, j) :: [(i, l)]) = cellIn rowsL (i, l) := fun i l => by
    rw [hcellL]; simp only [D.atU]; cases cellIn rowsL (i, l) <;> rfl
  let hole : Nat → Nat → Prop := fun i l => ∃ x, cellIn rows (i, l) = some x ∧ ∃ f, cellIn rowsL (i, l) = some (.lit (f [])) ∧ Tree G.imm w (om i l) f x ∧ x.solid = true
  obtain ⟨F, hF⟩ : ∃ F : Nat → Nat → Path → Value, ∀ i l, hole i l → ∀ x, cellIn rows (i, l) = some x → cellIn rowsL (i, l) = some (.lit (F i l [])) ∧ Tree G.imm w (om i l) (F i l) x ∧ x.solid = true := by
    have hex : ∀ i l, ∃ f : Path → Value, hole i l → ∀ x, cellIn rows (i, l) = some x → cellIn rowsL (i, l) = some (.lit (f [])) ∧ Tree G.imm w (om i l) f x ∧ x.solid = true := fun i l => by
      by_cases hh : hole i l
      · obtain ⟨x, hx, f, h1⟩ := hh
        exact ⟨f, fun _ y hy => by rw [hx] at hy; cases hy; exact h1⟩
      · exact ⟨fun _ => undef, fun hh' => absurd hh' hh⟩
    exact ⟨fun i l => (hex i l).choose, fun i l => (hex i l).choose_spec⟩
  obtain ⟨Hp, hHp⟩ : ∃ Hp : Nat → Option (Nat × Nat × Path), ∀ b i l π, Hp b = some (i, l, π) ↔ om i l b = some π := by
    have hex : ∀ b, ∃ r : Option (Nat × Nat × Path), ∀ i l π, r = some (i, l, π) ↔ om i l b = some π := fun b => by
      by_cases hh : ∃ i l π, om i l b = some π
      · obtain ⟨i, l, π, hb⟩ := hh
        refine ⟨some (i, l, π), fun i' l' π' => ⟨fun e => by cases e; exact hb, fun e => ?_⟩⟩
        obtain ⟨rfl, rfl⟩ := hdis _ _ _ _ _ _ _ hb e
        rw [hb] at e; cases e; rfl
      · exact ⟨Option.none, fun i l π => ⟨fun e => (by cases e), fun e => absurd ⟨i, l, π, e⟩ hh⟩⟩
    exact ⟨fun b => (hex b).choose, fun b => (hex b).choose_spec⟩
  have hFv : ∀ i l, hole i l → F i l [] = G.val p [(k, j), (i, l)] := fun i l hh => by
    obtain ⟨x, hx, _⟩ := id hh
    have h1 := (hF i l hh x hx).1
    have h2 := h.loc p [(k, j), (i, l)] _ ((hcl i l).trans h1)
    exact (RO.lit.1 (show RO G.imm w _ _ from h2)).symm
  let G' : Gh := { G with
    val := fun q π => match under p k j (q, π) with
      | some ((i, l) :: ρ) => if hole i l then F i l ρ else G.val q π
      | _ => G.val q π
    own := fun b => match G.own b with
      | some q => some q
      | Option.none => (Hp b).map fun r => (p, (k, j) :: (r.1, r.2.1) :: r.2.2) }
  have hown1 : ∀ b q, G.own b = some q → G'.own b = some q := fun b q hb => by simp only [G', hb]
  have hown2 : ∀ i l b π, om i l b = some π → G'.own b = some (p, (k, j) :: (i, l) :: π) := fun i l b π hb => by
    have hn := (hfree i l b π hb).1
    simp only [G', hn, (hHp b i l π).2 hb, Option.map_some]
  have hown3 : ∀ b q, G'.own b = some q → G.own b = some q ∨ ∃ i l π, om i l b = some π := fun b q hb => by
    simp only [G'] at hb
    cases ho : G.own b with
    | some q' => rw [ho] at hb; exact .inl hb
    | none =>
      rw [ho] at hb
      simp only [Option.map_eq_some_iff] at hb
      obtain ⟨⟨i, l, π⟩, h1, _⟩ := hb
      exact .inr ⟨i, l, π, (hHp b i l π).1 h1⟩
  have hvO : ∀ q π, (q = p → ¬ ∃ ρ, π = (k, j) :: ρ) → G'.val q π = G.val q π := fun q π hq => by
    simp only [G', under_none.2 hq]
  have hv0 : G'.val p [(k, j)] = G.val p [(k, j)] := by
    have : under p k j (p, [(k, j)]) = some [] := under_some.2 ⟨rfl, rfl⟩
    simp only [G', this]
  have hvH : ∀ i l ρ, hole i l → G'.val p ((k, j) :: (i, l) :: ρ) = F i l ρ := fun i l ρ hh => by
    have : under p k j (p, (k, j) :: (i, l) :: ρ) = some ((i, l) :: ρ) := under_some.2 ⟨rfl, rfl⟩
    simp only [G', this, if_pos hh]
  have hvN : ∀ i l ρ, ¬ hole i l → G'.val p ((k, j) :: (i, l) :: ρ) = G.val p ((k, j) :: (i, l) :: ρ) := fun i l ρ hh => by
    have : under p k j (p, (k, j) :: (i, l) :: ρ) = some ((i, l) :: ρ) := under_some.2 ⟨rfl, rfl⟩
    simp only [G', this, if_neg hh]
  have hv1 : ∀ i l, G'.val p [(k, j), (i, l)] = G.val p [(k, j), (i, l)] := fun i l => by
    by_cases hh : hole i l
    · rw [hvH i l [] hh, hFv i l hh]
    · exact hvN i l [] hh
  have hvT : ∀ q kl, G'.val q [kl] = G.val q [kl] := fun q kl => by
    rcases under_split p q k j [kl] with ⟨ρ, rfl, e⟩ | hq
    · simp only [List.cons.injEq] at e
      obtain ⟨rfl, rfl⟩ := e
      exact hv0
    · exact hvO q _ hq
  refine ⟨G', h.topC hc hv0 rfl rfl rfl (h.same fun i k₂ j₂ => hvT _ _) hvO (fun b q π _ hb => hown1 b _ hb) (fun b q π _ _ _ => SameAt.refl w b) (fun _ hb => hb) (fun b _ => SameAt.refl w b) ?_ h.immLt ?_ ?_ ?_, rfl, rfl, hvT, hown1, fun b hb => ?_, Fx.of setTopC_n (fun _ _ => rfl) (fun i _ ds' hd => ?_) (fun i _ kj _ => hvT _ _)⟩
  · intro b hb
    have h0 := h.immOwn b hb
    cases ho : G'.own b with
    | none => rfl
    | some q =>
      rcases hown3 b q ho with h1 | ⟨i, l, π, h1⟩
      · rw [h0] at h1; cases h1
      · exact absurd hb (hfree i l b π h1).2.1
  · intro b q hb
    rcases hown3 b q hb with h1 | ⟨i, l, π, h1⟩
    · exact h.ownLt b q h1
    · exact (hfree i l b π h1).2.2
  · rintro i ds rfl hv
    obtain ⟨_, h2, h3⟩ := h.vars i ds hv
    exact ⟨h2, fun l hl => by rw [hvT]; exact h3 l hl⟩
  · intro ρ x hρ
    cases ρ with
    | nil =>
      simp [D.atU] at hρ; subst hρ
      refine ⟨?_, fun e => absurd rfl e⟩
      show LocOwn G' w p [(k, j)] sz rows
      rcases (show LocOwn G w p [(k, j)] sz rowsL from h.loc p [(k, j)] (.sl true sz rowsL) (by rw [hcellL]; rfl)) with ⟨e1, e2⟩ | ⟨b, o, c, e1, e2, e3, e4, e5⟩
      · refine .inl ⟨?_, by rw [hv0]; exact e2⟩
        rw [e1] at hlen
        exact List.length_eq_zero_iff.1 hlen
      · refine .inr ⟨b, o, c, by rw [hv0, hlen]; exact e1, by rw [hlen]; exact e2, hown1 b _ e3, e4, fun i row hr => ⟨hrow i row hr, fun l hl => ?_⟩⟩
        have hi := (List.getElem?_eq_some_iff.1 hr).1
        rw [List.singleton_append, hv1]
        exact (e5 i _ (List.getElem?_eq_getElem (show i < rowsL.length by omega))).2 l hl
    | cons il ρ =>
      obtain ⟨i, l⟩ := il
      simp only [D.atU] at hρ
      cases hy : cellIn rows (i, l) with
      | none => rw [hy] at hρ; cases hρ
      | some y =>
        rw [hy] at hρ
        simp only at hρ
        by_cases hh : hole i l
        · obtain ⟨k1, k2, k3⟩ := hF i l hh y hy
          have k4 := k2 ρ x hρ
          by_cases ho : x.isOwn = true
          · cases x with
            | sl u sz' rows' =>
              cases u with
              | false => simp [D.isOwn] at ho
              | true =>
                refine ⟨?_, fun _ => rfl⟩
                show LocOwn G' w p ((k, j) :: (i, l) :: ρ) sz' rows'
                rcases k4 with ⟨e1, e2⟩ | ⟨b, o, c, e1, e2, e3, e4, e5⟩
                · exact .inl ⟨e1, by rw [hvH i l ρ hh]; exact e2⟩
                · refine .inr ⟨b, o, c, by rw [hvH i l ρ hh]; exact e1, e2, hown2 i l b ρ e3, e4, fun i' row hr => ⟨(e5 i' row hr).1, fun l' hl' => ?_⟩⟩
                  have := (e5 i' row hr).2 l' hl'
                  rw [List.cons_append, List.cons_append, hvH i l _ hh]
                  exact this
            | _ => simp [D.isOwn] at ho
          · have ho' : x.isOwn = false := by simpa using ho
            obtain ⟨q1, q2⟩ := k4.ro ho'
            exact ⟨Loc.ofV (by rw [hvH i l ρ hh]; exact LocV.ofSolid q1 q2 ho'), fun _ => q2⟩
        · have hyL : cellIn rowsL (i, l) = some y := by
            rcases hx i l y hy with h1 | h1
            · exact h1
            · exact absurd ⟨y, hy, h1⟩ hh
          have hcx : σ.cell p ((k, j) :: (i, l) :: ρ) = some x := by
            rw [hcellL]; simp only [D.atU, hyL]; exact hρ
          have hl := h.loc p _ x hcx
          have hsol := h.deep p (k, j) (i, l) ρ x hcx
          by_cases ho : x.isOwn = true
          · cases x with
            | sl u sz' rows' =>
              cases u with
              | false => simp [D.isOwn] at ho
              | true =>
                refine ⟨?_, fun _ => rfl⟩
                exact LocOwn.carry hl (hvN i l ρ hh) (fun ij => by
                  have := hvN i l (ρ ++ [ij]) hh
                  simpa using this) (fun b hb => hown1 b _ hb) (fun b _ => SameAt.refl w b)
            | _ => simp [D.isOwn] at ho
          · have ho' : x.isOwn = false := by simpa using ho
            exact ⟨Loc.ofV (by rw [hvN i l ρ hh]; exact LocV.ofSolid ((hl.toV ho').solid hsol) hsol ho'), fun _ => hsol⟩
  · cases ho : G'.own b with
    | none => exact .inl rfl
    | some q =>
      rcases hown3 b q ho with h1 | h1
      · rw [hb] at h1; cases h1
      · exact .inr h1
  · obtain ⟨d1, e1, _⟩ := setTop_vr (show (σ.setTop p k j (.sl true sz rows)).vr i = some (false, ds') from hd)
    exact ⟨d1, e1⟩

/-- What a step leaves, and what is told of again behind it. -/
theorem Kp.unhide {t : List Pl} {G G1 G2 : Gh} {w w' : World} (h : Kp t G w G1 w') (hi : G2.imm = G1.imm) (h1 : ∀ b q, G1.own b = some q → G2.own b = some q)
    (h2 : ∀ b, G1.own b = Option.none → G2.own b = Option.none ∨ ∃ p ρ, p ∈ t ∧ G.own b = some (p, ρ)) : Kp t G w G2 w' := by
  refine ⟨h.os, h.tape, h.output, h.size, fun b hb h0 => ?_, fun b p π hp h0 => ?_, fun b hb => by rw [hi]; exact h.imm b hb, fun b hb => h.immB b (by rw [← hi]; exact hb)⟩
  · obtain ⟨q1, q2⟩ := h.free b hb h0
    refine ⟨q1, ?_⟩
    rcases h2 b q2 with h3 | ⟨p, ρ, _, h3⟩
    · exact h3
    · rw [h0] at h3; cases h3
  · obtain ⟨q1, q2⟩ := h.keep b p π hp h0
    exact ⟨q1, h1 b _ q2⟩

/-- The same, where new blocks may be told of, too. -/
theorem Kp.unhide' {t : List Pl} {G G1 G2 : Gh} {w w' : World} (h : Kp t G w G1 w') (hi : G2.imm = G1.imm) (h1 : ∀ b q, G1.own b = some q → G2.own b = some q)
    (h2 : ∀ b, b < w.heap.size → G1.own b = Option.none → G2.own b = Option.none ∨ ∃ p ρ, p ∈ t ∧ G.own b = some (p, ρ)) : Kp t G w G2 w' := by
  refine ⟨h.os, h.tape, h.output, h.size, fun b hb h0 => ?_, fun b p π hp h0 => ?_, fun b hb => by rw [hi]; exact h.imm b hb, fun b hb => h.immB b (by rw [← hi]; exact hb)⟩
  · obtain ⟨q1, q2⟩ := h.free b hb h0
    refine ⟨q1, ?_⟩
    rcases h2 b hb q2 with h3 | ⟨p, ρ, _, h3⟩
    · exact h3
    · rw [h0] at h3; cases h3
  · obtain ⟨q1, q2⟩ := h.keep b p π hp h0
    exact ⟨q1, h1 b _ q2⟩

end
end Go.AI

/-
  The abstract interpreter, part Td: what is put into a slice with all that it owns.
-/
namespace Go.AI
open Go.RowKit

theorem TLoc.mono {imm imm' : Nat → Prop} {w w' : World} {om : Nat → Option Path} {f : Path → Value} {π : Path} {d : D} (h : TLoc imm w om f π d) (hi : ∀ b, imm b → imm' b) (hw : ∀ b, imm b → SameAt w w' b)
    (ho : ∀ b π, om b = some π → SameAt w w' b) : TLoc imm' w' om f π d := by
  by_cases hown : d.isOwn = true
  · cases d with
    | sl u sz rows =>
      cases u with
      | false => simp [D.isOwn] at hown
      | true =>
        rcases h with ⟨h1, h2⟩ | ⟨b, o, c, h1, h2, h3, h4, h5⟩
        · exact .inl ⟨h1, h2⟩
        · refine .inr ⟨b, o, c, h1, h2, h3, fun j hj => ?_, fun i row hr => ⟨(h5 i row hr).1, fun j hj => ?_⟩⟩
          · rw [(ho b π h3 _).1, (ho b π h3 _).2]; exact h4 j hj
          · rw [(ho b π h3 _).1]; exact (h5 i row hr).2 j hj
    | _ => simp [D.isOwn] at hown
  · have hown' : d.isOwn = false := by simpa using hown
    obtain ⟨h1, h2⟩ := h.ro hown'
    exact TLoc.ofRO (h1.mono hi hw) h2 hown'

theorem Tree.mono {imm imm' : Nat → Prop} {w w' : World} {om : Nat → Option Path} {f : Path → Value} {x : D} (h : Tree imm w om f x) (hi : ∀ b, imm b → imm' b) (hw : ∀ b, imm b → SameAt w w' b)
    (ho : ∀ b π, om b = some π → SameAt w w' b) : Tree imm' w' om f x := fun π d' hd => (h π d' hd).mono hi hw ho

def strip (kl : Nat × Nat) : Path → Option Path
  | ij :: ρ => if ij = kl then some ρ else Option.none
  | [] => Option.none
theorem strip_some {kl : Nat × Nat} {π ρ : Path} : strip kl π = some ρ ↔ π = kl :: ρ := by
  cases π with
  | nil => simp [strip]
  | cons ij π =>
    simp only [strip]
    split
    · next e => subst e; simp
    · next e => simp [e]

theorem TLoc.sub {imm : Nat → Prop} {w : World} {om : Nat → Option Path} {f : Path → Value} {kl : Nat × Nat} {π : Path} {d : D} (h : TLoc imm w om f (kl :: π) d) :
    TLoc imm w (fun b => (om b).bind (strip kl)) (fun ρ => f (kl :: ρ)) π d := by
  by_cases hown : d.isOwn = true
  · cases d with
    | sl u sz rows =>
      cases u with
      | false => simp [D.isOwn] at hown
      | true =>
        rcases h with ⟨h1, h2⟩ | ⟨b, o, c, h1, h2, h3, h4, h5⟩
        · exact .inl ⟨h1, h2⟩
        · exact .inr ⟨b, o, c, h1, h2, by simp only [h3, Option.bind_some]; exact strip_some.2 rfl, h4, h5⟩
    | _ => simp [D.isOwn] at hown
  · have hown' : d.isOwn = false := by simpa using hown
    obtain ⟨h1, h2⟩ := h.ro hown'
    exact TLoc.ofRO (f := fun ρ => f (kl :: ρ)) h1 h2 hown'

theorem Tree.sub {imm : Nat → Prop} {w : World} {om : Nat → Option Path} {f : Path → Value} {sz : Nat} {rows : List (List D)} (h : Tree imm w om f (.sl true sz rows)) {i l : Nat} {x : D} (hx : cellIn rows (i, l) = some x) :
    Tree imm w (fun b => (om b).bind (strip (i, l))) (fun ρ => f ((i, l) :: ρ)) x := fun π d' hd => TLoc.sub (h ((i, l) :: π) d' (by simp [D.atU, hx, hd]))

def D.solidifyM (σ : St) : D → Option (St × D × List Pl)
  | .bor q [(k, j)] n Option.none => if σ.sb q (k, j) = n then match cellIn (σ.rows q) (k, j) with
      | some (.sl true sz rows) => some ((σ.setTop q k j .dead).bump q k j, .sl true sz rows, [q])
      | _ => Option.none
    else Option.none
  | .lit v => some (σ, .lit v, [])
  | .nil => some (σ, .nil, [])
  | .sl false sz rows => some (σ, .sl false sz rows, [])
  | _ => Option.none

def solidifyML (σ : St) : List D → Option (St × List D × List Pl)
  | [] => some (σ, [], [])
  | d :: r => match d.solidifyM σ with
    | some (σ1, d', t1) => match solidifyML σ1 r with
      | some (σ2, r', t2) => some (σ2, d' :: r', t1 ++ t2)
      | Option.none => Option.none
    | Option.none => Option.none

section
variable {P : Program} {G : Gh} {σ : St} {a : Act} {w : World} {o : Oper}

/-- What stands for a cell while its tree is hidden. -/
def Hid (imm : Nat → Prop) (w : World) (om : Nat → Option Path) (x y : D) (u : Value) : Prop :=
  RO imm w y u ∧ y.solid = true ∧ y.isOwn = false ∧ (y = x ∨ ∃ f, y = .lit (f []) ∧ Tree imm w om f x ∧ x.solid = true)

theorem drop_carry (h : R G σ a w) {q : Pl} {k j : Nat} (hc : (cellIn (σ.rows q) (k, j)).isSome = true) :
    R (G.drop q k j) ((σ.setTop q k j .dead).bump q k j) a w ∧ Kp [q] G w (G.drop q k j) w ∧ Fx σ ((σ.setTop q k j .dead).bump q k j) G (G.drop q k j) ∧
      (∀ u x, LocV G w σ u x → x.refLt σ.tick → LocV (G.drop q k j) w ((σ.setTop q k j .dead).bump q k j) u x ∧ x.refLt ((σ.setTop q k j .dead).bump q k j).tick) := by
  refine ⟨h.drop hc, ⟨rfl, rfl, rfl, Nat.le_refl _, fun b hb h0 => ⟨rfl, by simp [Gh.drop, h0]⟩, fun b x π hx h0 => ⟨rfl, Gh.drop_own.2 ⟨h0, fun e => absurd (by simp [e]) hx⟩⟩, fun b hb => hb, fun b hb => .inl hb⟩, ?_, fun u x hx hr => ⟨?_, ?_⟩⟩
  · refine Fx.of setTop_n (fun _ _ => rfl) (fun i _ ds' hd => ?_) (fun _ _ _ _ => rfl)
    obtain ⟨d1, e1, _⟩ := setTop_vr (show (σ.setTop q k j .dead).vr i = some (false, ds') from hd)
    exact ⟨d1, e1⟩
  · exact top_carry (G := G) (G' := G.drop q k j) rfl (fun _ _ _ => rfl) (fun b hb => hb) (fun b _ => SameAt.refl w b) hx (fun q ρ n rg e => by rw [e] at hr; exact hr) (fun q ρ i l n e => by rw [e] at hr; exact hr)
  · rw [setTop_tick]
    cases x <;> first | trivial | exact Nat.lt_succ_of_lt hr

theorem solidifyM_spec (h : R G σ a w) {d : D} {u : Value} (hv : LocV G w σ u d) {σ' : St} {d' : D} {t : List Pl} (hs : d.solidifyM σ = some (σ', d', t)) :
    ∃ (G' : Gh) (y : D) (om : Nat → Option Path), R G' σ' a w ∧ Kp t G w G' w ∧ Fx σ σ' G G' ∧ G'.imm = G.imm ∧ Hid G.imm w om d' y u ∧ (∀ b π, om b = some π → G'.own b = Option.none ∧ ∃ p ρ, p ∈ t ∧ G.own b = some (p, ρ)) ∧
      (∀ v x, LocV G w σ v x → x.refLt σ.tick → LocV G' w σ' v x ∧ x.refLt σ'.tick) := by
  have plain : ∀ {x : D}, RO G.imm w x u → x.solid = true → x.isOwn = false → ∃ (G' : Gh) (y : D) (om : Nat → Option Path), R G' σ a w ∧ Kp [] G w G' w ∧ Fx σ σ G G' ∧ G'.imm = G.imm ∧ Hid G.imm w om x y u ∧ (∀ b π, om b = some π → G'.own b = Option.none ∧ ∃ p ρ, p ∈ ([] : List Pl) ∧ G.own b = some (p, ρ)) ∧
      (∀ v x, LocV G w σ v x → x.refLt σ.tick → LocV G' w σ v x ∧ x.refLt σ.tick) := fun {x} h1 h2 h3 =>
    ⟨G, x, fun _ => Option.none, h, Kp.refl G w, Fx.refl σ G, rfl, ⟨h1, h2, h3, .inl rfl⟩, fun b π hb => (by cases hb), fun v x hx hr => ⟨hx, hr⟩⟩
  unfold D.solidifyM at hs
  split at hs
  · next q k j n =>
    split at hs
    · next hn =>
      split at hs
      · next sz rows hc =>
        simp only [Option.some.injEq, Prod.mk.injEq] at hs; obtain ⟨rfl, rfl, rfl⟩ := hs
        obtain ⟨g1, g2, g3, g4⟩ := drop_carry h (q := q) (k := k) (j := j) (by rw [hc]; rfl)
        have hu : u = G.val q [(k, j)] := by
          have h1 := hv hn sz rows (by simp [St.cell, hc, D.atU])
          rw [h1]
          rcases (show LocOwn G w q [(k, j)] sz rows from h.loc q [(k, j)] (.sl true sz rows) (by simp [St.cell, hc, D.atU])) with ⟨_, e⟩ | ⟨b, o', c, e, _⟩ <;> rw [e] <;> rfl
        refine ⟨_, .lit u, _, g1, g2, g3, rfl, ⟨RO.lit.2 rfl, rfl, rfl, .inr ⟨_, ?_, h.tree hc, rfl⟩⟩, fun b π hb => ?_, g4⟩
        · rw [hu]
        · obtain ⟨⟨p, ρ⟩, h1, h2⟩ := Option.bind_eq_some_iff.1 hb
          obtain ⟨rfl, rfl⟩ := under_some.1 h2
          exact ⟨by simp only [Gh.drop, h1, h2]; rfl, p, _, by simp, h1⟩
      · cases hs
    · cases hs
  · simp only [Option.some.injEq, Prod.mk.injEq] at hs; obtain ⟨rfl, rfl, rfl⟩ := hs
    exact plain hv rfl rfl
  · simp only [Option.some.injEq, Prod.mk.injEq] at hs; obtain ⟨rfl, rfl, rfl⟩ := hs
    exact plain hv rfl rfl
  · simp only [Option.some.injEq, Prod.mk.injEq] at hs; obtain ⟨rfl, rfl, rfl⟩ := hs
    exact plain hv rfl rfl
  · cases hs

theorem solidifyML_spec {a : Act} {w : World} : ∀ (ds : List D) (vs : List Value) {G : Gh} {σ : St} (h : R G σ a w), Cs G w σ vs ds → ∀ σ' ds' t, solidifyML σ ds = some (σ', ds', t) →
    ∃ (G' : Gh) (us : List D) (om : Nat → Nat → Option Path), R G' σ' a w ∧ Kp t G w G' w ∧ Fx σ σ' G G' ∧ G'.imm = G.imm ∧ ds'.length = ds.length ∧ us.length = ds.length ∧
      (∀ (m : Nat) x, ds'[m]? = some x → ∃ u y, vs[m]? = some u ∧ us[m]? = some y ∧ Hid G.imm w (om m) x y u) ∧
      (∀ (m : Nat) b π, om m b = some π → G'.own b = Option.none ∧ ∃ p ρ, p ∈ t ∧ G.own b = some (p, ρ)) ∧ (∀ (m m' : Nat) b π π', om m b = some π → om m' b = some π' → m = m') ∧
      (∀ v x, LocV G w σ v x → x.refLt σ.tick → LocV G' w σ' v x ∧ x.refLt σ'.tick)
  | [], vs, G, σ, h, hc, σ', ds', t, hs => by
    simp only [solidifyML, Option.some.injEq, Prod.mk.injEq] at hs; obtain ⟨rfl, rfl, rfl⟩ := hs
    exact ⟨G, [], fun _ _ => Option.none, h, Kp.refl G w, Fx.refl σ G, rfl, rfl, rfl, fun m x hx => (by simp at hx), fun m b π hb => (by cases hb), fun m m' b π π' hb => (by cases hb), fun v x hx hr => ⟨hx, hr⟩⟩
  | d :: r, vs, G, σ, h, hc, σ', ds', t, hs => by
    simp only [solidifyML] at hs
    split at hs
    · next σ1 d' t1 h1 =>
      split at hs
      · next σ2 r' t2 h2 =>
        simp only [Option.some.injEq, Prod.mk.injEq] at hs; obtain ⟨rfl, rfl, rfl⟩ := hs
        cases vs with
        | nil => have := hc.1; simp at this
        | cons v vs =>
          obtain ⟨u, q1, q2, q3⟩ := hc.2 0 d rfl
          simp at q1; subst q1
          obtain ⟨G1, y, om0, g1, g2, g3, g4, g5, g6, g7⟩ := solidifyM_spec h q2 h1
          obtain ⟨G2, us, om, k1, k2, k3, k4, k5, k6, k7, k8, k9, k10⟩ := solidifyML_spec r vs g1 ⟨by have := hc.1; simpa using this, fun j x hx => by
            obtain ⟨u, r1, r2, r3⟩ := hc.2 (j + 1) x (by simpa using hx)
            exact ⟨u, by simpa using r1, g7 u x r2 r3⟩⟩ _ _ _ h2
          refine ⟨G2, y :: us, fun m => match m with | 0 => om0 | m + 1 => om m, k1, g2.trans k2, g3.trans k3, k4.trans g4, by simp [k5], by simp [k6], fun m x hx => ?_, fun m b π hb => ?_, fun m m' b π π' hb hb' => ?_, fun u x hx hr => ?_⟩
          · cases m with
            | zero => simp at hx; subst hx; exact ⟨v, y, rfl, rfl, g5⟩
            | succ m =>
              simp at hx
              obtain ⟨u, y', r1, r2, r3⟩ := k7 m x hx
              rw [g4] at r3
              exact ⟨u, y', by simpa using r1, by simpa using r2, r3⟩
          · cases m with
            | zero =>
              obtain ⟨e1, p, ρ, e2, e3⟩ := g6 b π hb
              exact ⟨(k2.free b (h.ownLt b _ e3) e1).2, p, ρ, by simp [e2], e3⟩
            | succ m =>
              obtain ⟨e1, p, ρ, e2, e3⟩ := k8 m b π hb
              refine ⟨e1, ?_⟩
              cases ho : G.own b with
              | none => have := (g2.free b (g1.ownLt b _ e3) ho).2; rw [e3] at this; cases this
              | some xp =>
                obtain ⟨x, τ⟩ := xp
                by_cases hx : x ∈ t1
                · exact ⟨x, τ, by simp [hx], rfl⟩
                · have := (g2.keep b x τ hx ho).2
                  rw [e3] at this; cases this
                  exact ⟨p, ρ, by simp [e2], rfl⟩
          · cases m with
            | zero =>
              cases m' with
              | zero => rfl
              | succ m' =>
                have e1 := (g6 b π hb).1
                obtain ⟨_, p, ρ, _, e3⟩ := k8 m' b π' hb'
                rw [e1] at e3; cases e3
            | succ m =>
              cases m' with
              | zero =>
                have e1 := (g6 b π' hb').1
                obtain ⟨_, p, ρ, _, e3⟩ := k8 m b π hb
                rw [e1] at e3; cases e3
              | succ m' => rw [k9 m m' b π π' hb hb']
          · obtain ⟨r1, r2⟩ := g7 u x hx hr
            exact k10 u x r1 r2
      · cases hs
    · cases hs

/-! ### A slice literal with one element -/
def buildSliceM (P : Program) (σ : St) (t : TypeId) (len : Nat) (parts : List (Nat × Operand)) (d : Nat) : Option (St × List Pl) :=
  match tel P t with
  | some e => match tzero P e, tsz P e, partsOf σ parts with
    | some zs, some sz, some [(0, ds)] => match solidifyML σ ds with
      | some (σ1, ds1, t1) => if d < σ1.n ∧ zs.length = sz ∧ 0 < sz ∧ sz ≤ 16777216 ∧ len = 1 ∧ ds.length = sz then some ((σ1.own d sz [ds1]).bumpC (.s d) 0 0, t1 ++ [.s d]) else Option.none
      | Option.none => Option.none
    | _, _, _ => Option.none
  | Option.none => Option.none

theorem own_cell {d sz : Nat} {r : List (List D)} : cellIn ((σ.own d sz r).rows (.s d)) (0, 0) = some (.sl true sz r) := by
  simp [St.own, St.bump, St.put, St.rows, SV.rows, cellIn]
theorem own_again {d sz : Nat} {r r' : List (List D)} : (σ.own d sz r).setTop (.s d) 0 0 (.sl true sz r') = σ.own d sz r' := by
  simp only [St.own, St.bump, St.put, St.setTop]
  congr 1
  funext i
  by_cases e : i = d <;> simp [e, SV.set]

theorem Kp.sameFree {t : List Pl} {G G' : Gh} {w w' : World} (h : Kp t G w G' w') {b : Nat} (hb : b < w.heap.size) (h0 : G.own b = Option.none) : SameAt w w' b := SameAt.of_heap (h.free b hb h0).1

theorem buildSliceM_out (h : R G σ a w) {t : TypeId} {len : Nat} {parts : Array (Nat × Operand)} (ho : o.op = .buildSlice t len parts) {d : Nat} (hd : o.dst = some d) {σ' : St} {tt : List Pl} (hs : buildSliceM P σ t len parts.toList d = some (σ', tt)) : Out P G σ a w o σ' tt := by
  unfold buildSliceM at hs
  split at hs
  · next e he =>
    split at hs
    · next zs sz ds hz hsz hps =>
      split at hs
      · next σ1 ds1 t1 hsol =>
        split at hs
        · next hc =>
          obtain ⟨hn, hzl, hpos, hle, rfl, hdl⟩ := hc
          simp only [Option.some.injEq, Prod.mk.injEq] at hs; obtain ⟨rfl, rfl⟩ := hs
          obtain ⟨z, hz1, hz2⟩ := Option.bind_eq_some_iff.1 hz
          obtain ⟨i, hi, hz3⟩ := Option.bind_eq_some_iff.1 hz1
          obtain ⟨hl, hg⟩ := mapLit_spec hz2
          have hisz : i.size = sz := by simpa [tsz, hi] using hsz
          have hzc : z.cells.size = sz := by rw [← hzl, hl]; simp
          obtain ⟨p1, p2⟩ := partsOf_spec h _ _ hps
          obtain ⟨v0, r1, r2, _⟩ := p2 0 0 ds rfl
          obtain ⟨G1, us, om, g1, g2, g3, g4, g5, g6, g7, g8, g9, g10⟩ := solidifyML_spec ds _ h r2 _ _ _ hsol
          have hus : us.length = sz := by rw [g6]; exact hdl
          obtain ⟨cells, q1, q2, q3⟩ := fillR_spec (imm := G1.imm) (w := w) sz [(0, us)] (parts.toList.map fun (i, x) => (i, a.eval x)) (List.replicate 1 zs) (madeCells z.cells (1 * sz)) (rs_made (imm := G1.imm) (w := w) hzl hzc hg) (by simpa using p1) (fun m i' es hm => by
            cases m with
            | succ m => simp at hm
            | zero =>
              simp at hm; obtain ⟨rfl, rfl⟩ := hm
              refine ⟨v0, r1, by have := r2.1; simp at this; omega, fun l y hy => ?_⟩
              have hll := (List.getElem?_eq_some_iff.1 hy).1
              obtain ⟨u, y', u1, u2, u3, u4, u5, _⟩ := g7 l _ (List.getElem?_eq_getElem (show l < ds1.length by omega))
              rw [hy] at u2; simp at u2; subst u2
              rw [g4]
              exact ⟨u, u1, u3, u4, u5⟩) [us] (by simp [fillR, hus])
          have hcs : cells.size = 1 * sz := by have := q2.1; simpa using this
          obtain ⟨G2, k1, k2, k3⟩ := g1.ownNew (d := d) hn (sz := sz) (rows := [us]) (b := w.heap.size) (o := 0) (c := 1) (v := .slice (some ⟨w.heap.size, 0, Option.none⟩) 1 1)
            (w' := w.alloc (.cells cells e)) (Nat.le_refl _) (by simp) (grown_alloc w _) rfl (by simp) (there_new (by rw [hcs]; exact Nat.le_refl _)) q2.rowsIn
          have hG2 : ∀ m b π, om m b = some π → G1.own b = Option.none ∧ G2.own b = Option.none ∧ b < w.heap.size := fun m b π hb => by
            obtain ⟨e1, p, ρ, _, e3⟩ := g8 m b π hb
            have hlt := h.ownLt b _ e3
            exact ⟨e1, (k2.free b hlt e1).2, hlt⟩
          obtain ⟨G3, m1, m2, m3, m4, m5, m6, _⟩ := k1.unhide (rows := [ds1]) own_cell rfl (fun i row hr => by
              cases i with
              | zero => simp at hr; subst hr; rw [g5]; exact hdl
              | succ i => simp at hr) (om := fun i l => if i = 0 then om l else fun _ => Option.none) (fun i l x hx => by
              obtain ⟨row, hr, hx⟩ := cellIn_some.1 hx
              cases i with
              | succ i => simp at hr
              | zero =>
                simp at hr; subst hr
                obtain ⟨u, y, u1, u2, u3, u4, u5, u6⟩ := g7 l x hx
                have hcL : cellIn [us] (0, l) = some y := cellIn_some.2 ⟨us, rfl, u2⟩
                rcases u6 with rfl | ⟨f, rfl, u7, u8⟩
                · exact .inl hcL
                · refine .inr ⟨f, hcL, ?_, u8⟩
                  simp only [if_true]
                  refine u7.mono (fun b hb => k2.imm b (by rw [g4]; exact hb)) (fun b hb => ?_) (fun b π hb => ?_)
                  · have hb' : G1.imm b := by rw [g4]; exact hb
                    exact k2.sameFree (g1.immLt b hb') (g1.immOwn b hb')
                  · obtain ⟨e1, _, e3⟩ := hG2 l b π hb
                    exact k2.sameFree e3 e1) (fun i l i' l' b π π' hb hb' => by
              by_cases e : i = 0
              · by_cases e' : i' = 0
                · subst e; subst e'
                  simp only [if_true] at hb hb'
                  exact ⟨rfl, g9 _ _ _ _ _ hb hb'⟩
                · simp [e'] at hb'
              · simp [e] at hb) (fun i l b π hb => by
              by_cases e : i = 0
              · subst e
                simp only [if_true] at hb
                obtain ⟨e1, e2, e3⟩ := hG2 l b π hb
                refine ⟨e2, fun hi => ?_, Nat.lt_of_lt_of_le e3 k2.size⟩
                rcases k2.immB b hi with h1 | h1 | ⟨p, ρ, _, h1⟩
                · have := h.immOwn b (by rw [← g4]; exact h1)
                  obtain ⟨_, p, ρ, _, e5⟩ := g8 l b π hb
                  rw [this] at e5; cases e5
                · omega
                · rw [e1] at h1; cases h1
              · simp [e] at hb)
          rw [own_again] at m1
          have hfx : Fx (σ1.own d sz [us]) ((σ1.own d sz [ds1]).bumpC (.s d) 0 0) G2 G3 := Fx.of rfl (fun i _ => by rw [m3]) (fun i _ ds' hd => ⟨ds', hd⟩) (fun i _ kj _ => m4 _ _)
          refine ⟨_, G3, _, ?_, .inl ⟨_, rfl, by rw [hd]; exact m1⟩, (g2.trans k2).unhide m2 m5 (fun b hb => (m6 b hb).imp id ?_), (g3.trans k3).trans hfx⟩
          · simp only [execOp, ho]
            refine run_v2 (run_buildSlice0 w (tel_spec he) hi hz3 (by rw [hisz]; omega) ?_)
            rw [hisz]
            simpa using q1
          · rintro ⟨i, l, π, hb⟩
            by_cases e : i = 0
            · subst e
              simp only [if_true] at hb
              obtain ⟨_, p, ρ, e2, e3⟩ := g8 l b π hb
              exact ⟨p, ρ, by simp [e2], e3⟩
            · simp [e] at hb
        · cases hs
      · cases hs
    · cases hs
  · cases hs

end
end Go.AI

/-
  The abstract interpreter, part Te: elements are stored, and slices appended, with all that they own.
-/
namespace Go.AI
open Go.RowKit

theorem SV.set_set {sv : SV} {k j : Nat} {d d' : D} : (sv.set k j d).set k j d' = sv.set k j d' := by
  cases sv with
  | none => rfl
  | one x => cases k <;> cases j <;> rfl
  | agg ds => cases k <;> simp [SV.set, List.set_set]
  | tup cs =>
    simp only [SV.set, SV.tup.injEq]
    rw [List.modify_modify_eq]
    congr 1
    funext c
    simp [List.set_set]

theorem setTop_again {σ : St} {p : Pl} {k j : Nat} {d d' : D} : (σ.setTop p k j d).setTop p k j d' = σ.setTop p k j d' := by
  cases p with
  | s i =>
    simp only [St.setTop]
    congr 1
    funext i'
    by_cases e : i' = i <;> simp [e, SV.set_set]
  | v i =>
    simp only [St.setTop]
    congr 1
    funext i'
    by_cases e : i' = i
    · simp only [e, if_true]
      cases σ.vr i with
      | none => rfl
      | some x => obtain ⟨b, ds⟩ := x; by_cases hk : k = 0 <;> simp [hk, List.set_set]
    · simp [e]
theorem setTop_bump {σ : St} {p q : Pl} {k j k' j' : Nat} {d : D} : (σ.bump q k' j').setTop p k j d = (σ.setTop p k j d).bump q k' j' := by cases p <;> rfl
theorem setTop_bumpC {σ : St} {p q : Pl} {k j k' j' : Nat} {d : D} : (σ.bumpC q k' j').setTop p k j d = (σ.setTop p k j d).bumpC q k' j' := by cases p <;> rfl

section
variable {P : Program} {G : Gh} {σ : St} {a : Act} {w : World} {o : Oper}

/-! ### An element is stored -/
def storeM (P : Program) (σ : St) (t : TypeId) (x y : Operand) : Option (St × List Pl) :=
  match σ.rd x, (σ.rd y).toCells σ, tsz P t with
  | .one (.addr p [(k, j)] i l n), some ds, some m => if σ.sb p (k, j) = n ∧ m = ds.length then match solidifyML σ ds with
      | some (σ1, ds1, t1) => match cellIn (σ1.rows p) (k, j) with
        | some (.sl true sz rows) => match rows[i]? with
          | some row => if l + ds.length ≤ sz ∧ row.length = sz ∧ σ1.sb p (k, j) = n then some (((σ1.setTop p k j (.sl true sz (rows.set i (setL row l ds1)))).bumpC p k j).bumpC p k j, t1 ++ [p]) else Option.none
          | Option.none => Option.none
        | _ => Option.none
      | Option.none => Option.none
    else Option.none
  | _, _, _ => Option.none

theorem setL_get {ds row : List D} {l j : Nat} (hl : l + ds.length ≤ row.length) : (setL row l ds)[j]? = if l ≤ j ∧ j < l + ds.length then ds[j - l]? else row[j]? := by
  split
  · next h =>
    have := setL_in ds row l (j - l) hl (by omega)
    rwa [show l + (j - l) = j by omega] at this
  · next h => exact setL_out ds row l j (by omega)

theorem storeM_out (h : R G σ a w) {t : TypeId} {x y : Operand} (ho : o.op = .store t x y) (hd : o.dst = Option.none) {σ' : St} {tt : List Pl} (hs : storeM P σ t x y = some (σ', tt)) : Out P G σ a w o σ' tt := by
  have hput : a.put o.dst undef = a := by rw [hd]; rfl
  unfold storeM at hs
  split at hs
  · next p k j i l n ds m hx hy hm =>
    split at hs
    · next hc =>
      obtain ⟨hst, rfl⟩ := hc
      split at hs
      · next σ1 ds1 t1 hsol =>
        split at hs
        · next sz rows hcell =>
          split at hs
          · next row hrow =>
            split at hs
            · next hle =>
              obtain ⟨hle, hrl, hst1⟩ := hle
              simp only [Option.some.injEq, Prod.mk.injEq] at hs; obtain ⟨rfl, rfl⟩ := hs
              have hxv := h.rd x
              rw [hx] at hxv
              obtain ⟨hcs, hone⟩ := toCells_spec h (h.rd y) hy
              have hlen : (a.eval y).cells.size = ds.length := by have := hcs.1; simpa using this
              obtain ⟨G1, us, om, g1, g2, g3, g4, g5, g6, g7, g8, g9, g10⟩ := solidifyML_spec ds _ h hcs _ _ _ hsol
              have hxl := (g10 _ _ (tells_one_iff.1 hxv).1 (tells_one_iff.1 hxv).2).1
              have hi := (List.getElem?_eq_some_iff.1 hrow).1
              have hloc := (show LocOwn G1 w p [(k, j)] sz rows from g1.loc p [(k, j)] (.sl true sz rows) (by simp [St.cell, hcell, D.atU]))
              rcases hloc with ⟨e, _⟩ | ⟨b, o', c, e1, e2, e3, e4, e5⟩
              · rw [e] at hi; simp at hi
              have hav : a.eval x = .pointer (some ⟨b, o' + i * sz + l, Option.none⟩) := hxl hst1 _ ⟨sz, rows, b, o', _, c, by simp [St.cell, hcell, D.atU], e1, rfl⟩
              obtain ⟨G2, q1, q2, q3, q4, q5⟩ := g1.setElem hcell hrow (l := l) (ds := us) (us := (a.eval y).cells.toList) (by rw [g6]; exact hle) (by rw [g6]; simp [hlen]) (fun m y' hy' => by
                have hml := (List.getElem?_eq_some_iff.1 hy').1
                obtain ⟨u, y2, u1, u2, u3, u4, u5, _⟩ := g7 m _ (List.getElem?_eq_getElem (show m < ds1.length by omega))
                rw [hy'] at u2; simp at u2; subst u2
                rw [g4]
                exact ⟨u, u1, u3, u4, u5⟩) e1
              have hcell2 : cellIn (((σ1.setTop p k j (.sl true sz (rows.set i (setL row l us)))).bumpC p k j).rows p) (k, j) = some (.sl true sz (rows.set i (setL row l us))) := by
                show cellIn ((σ1.setTop p k j _).rows p) (k, j) = _
                exact setTop_same (by rw [hcell]; rfl)
              have hG2 : ∀ m b π, om m b = some π → G1.own b = Option.none ∧ G2.own b = Option.none ∧ b < w.heap.size := fun m b π hb => by
                obtain ⟨e1, p, ρ, _, e3⟩ := g8 m b π hb
                have hlt := h.ownLt b _ e3
                exact ⟨e1, (q2.free b hlt e1).2, hlt⟩
              obtain ⟨G3, m1, m2, m3, m4, m5, m6, hfx⟩ := q1.unhide (rows := rows.set i (setL row l ds1)) hcell2 (by simp) (fun i' row' hr' => by
                  by_cases e : i = i'
                  · subst e
                    rw [List.getElem?_set_self hi] at hr'
                    simp only [Option.some.injEq] at hr'; subst hr'
                    rw [setL_length]; exact hrl
                  · rw [List.getElem?_set_ne e] at hr'
                    exact (e5 i' row' hr').1) (om := fun i' l' => if i' = i ∧ l ≤ l' ∧ l' < l + ds1.length then om (l' - l) else fun _ => Option.none) (fun i' l' x hx => by
                  obtain ⟨row', hr', hx⟩ := cellIn_some.1 hx
                  by_cases e : i = i'
                  · subst e
                    rw [List.getElem?_set_self hi] at hr'
                    simp only [Option.some.injEq] at hr'; subst hr'
                    rw [setL_get (by omega)] at hx
                    have hcL : ∀ y, (setL row l us)[l']? = some y → cellIn (rows.set i (setL row l us)) (i, l') = some y := fun y hy => cellIn_some.2 ⟨_, List.getElem?_set_self hi, hy⟩
                    by_cases hr : l ≤ l' ∧ l' < l + ds1.length
                    · rw [if_pos hr] at hx
                      obtain ⟨u, y, u1, u2, u3, u4, u5, u6⟩ := g7 _ x hx
                      have hcy := hcL y (by rw [setL_get (by omega), if_pos (by omega)]; exact u2)
                      rcases u6 with rfl | ⟨f, rfl, u7, u8⟩
                      · exact .inl hcy
                      · refine .inr ⟨f, hcy, ?_, u8⟩
                        rw [if_pos ⟨rfl, hr⟩]
                        refine u7.mono (fun b hb => q2.imm b (by rw [g4]; exact hb)) (fun b hb => ?_) (fun b π hb => ?_)
                        · have hb' : G1.imm b := by rw [g4]; exact hb
                          exact q2.sameFree (g1.immLt b hb') (g1.immOwn b hb')
                        · obtain ⟨e1, _, e3⟩ := hG2 _ b π hb
                          exact q2.sameFree e3 e1
                    · rw [if_neg hr] at hx
                      exact .inl (hcL x (by rw [setL_get (by omega), if_neg (by omega)]; exact hx))
                  · rw [List.getElem?_set_ne e] at hr'
                    exact .inl (cellIn_some.2 ⟨row', by rw [List.getElem?_set_ne e]; exact hr', hx⟩)) (fun i1 l1 i2 l2 b π π' hb hb' => by
                  by_cases e : i1 = i ∧ l ≤ l1 ∧ l1 < l + ds1.length
                  · by_cases e' : i2 = i ∧ l ≤ l2 ∧ l2 < l + ds1.length
                    · rw [if_pos e] at hb
                      rw [if_pos e'] at hb'
                      have := g9 _ _ _ _ _ hb hb'
                      exact ⟨e.1.trans e'.1.symm, by omega⟩
                    · rw [if_neg e'] at hb'; cases hb'
                  · rw [if_neg e] at hb; cases hb) (fun i1 l1 b π hb => by
                  by_cases e : i1 = i ∧ l ≤ l1 ∧ l1 < l + ds1.length
                  · rw [if_pos e] at hb
                    obtain ⟨e1, e2, e3⟩ := hG2 _ b π hb
                    refine ⟨e2, fun hi => ?_, Nat.lt_of_lt_of_le e3 q2.size⟩
                    rw [q3, g4] at hi
                    obtain ⟨_, p, ρ, _, e5⟩ := g8 _ b π hb
                    rw [h.immOwn b hi] at e5; cases e5
                  · rw [if_neg e] at hb; cases hb)
              rw [setTop_bumpC, setTop_again] at m1 hfx
              refine ⟨.skip, G3, _, ?_, .inr ⟨rfl, by rw [hput]; exact m1⟩, (g2.trans q2).unhide m2 m5 (fun b hb => (m6 b hb).imp id ?_), (g3.trans (Fx.of setTopC_n (fun i _ => by rw [q4]) (fun i _ ds' hd => ?_) (fun i _ kj _ => q5 _ _))).trans hfx⟩
              · simp only [execOp, ho, hav]
                have := storeVar_run (P := P) (t := t) (v := a.eval y) (b := b) (o' := o' + i * sz + l) (w := w) (by rw [hlen]; exact hm) (fun m hm' => ?_) hone
                · simp [this]
                · have h1 : (i + 1) * sz ≤ c * sz := Nat.mul_le_mul_right sz (by omega)
                  have h2 : (i + 1) * sz = i * sz + sz := Nat.succ_mul i sz
                  have := e4 (i * sz + (l + m)) (by omega)
                  rwa [show o' + (i * sz + (l + m)) = o' + i * sz + l + m by omega] at this
              · rintro ⟨i1, l1, π, hb⟩
                by_cases e : i1 = i ∧ l ≤ l1 ∧ l1 < l + ds1.length
                · rw [if_pos e] at hb
                  obtain ⟨_, p, ρ, e2, e3⟩ := g8 _ b π hb
                  exact ⟨p, ρ, by simp [e2], e3⟩
                · rw [if_neg e] at hb; cases hb
              · obtain ⟨d1, e1, _⟩ := setTop_vr (show (σ1.setTop p k j _).vr i = some (false, ds') from hd)
                exact ⟨d1, e1⟩
            · cases hs
          · cases hs
        · cases hs
      · cases hs
    · cases hs
  · cases hs

end
end Go.AI

/-
  The abstract interpreter, part Tf: elements are appended with all that they own.
-/
namespace Go.AI
open Go.RowKit

def D.okM : D → Bool
  | .lit v => v.oneCell'
  | .nil => true
  | .sl _ _ _ => true
  | _ => false

def hideD (f : Path → Value) (i l : Nat) (x : D) : D := if x.isOwn = true then .lit (f [(i, l)]) else x
def hideRows (f : Path → Value) (rows : List (List D)) : List (List D) := rows.mapIdx fun i row => row.mapIdx fun l x => hideD f i l x

theorem hide_row {f : Path → Value} {rows : List (List D)} {i : Nat} {row : List D} (h : rows[i]? = some row) : (hideRows f rows)[i]? = some (row.mapIdx fun l x => hideD f i l x) := by
  simp [hideRows, List.getElem?_mapIdx, h]
theorem hide_row' {f : Path → Value} {rows : List (List D)} {i : Nat} {row : List D} (h : (hideRows f rows)[i]? = some row) : ∃ row0, rows[i]? = some row0 ∧ row = row0.mapIdx fun l x => hideD f i l x := by
  simp only [hideRows, List.getElem?_mapIdx, Option.map_eq_some_iff] at h
  obtain ⟨row0, h1, rfl⟩ := h
  exact ⟨row0, h1, rfl⟩

section
variable {P : Program} {G : Gh} {σ : St} {a : Act} {w : World} {o : Oper}

/-- What the cells of such a slice hold. -/
theorem tree_cell {imm : Nat → Prop} {om : Nat → Option Path} {f : Path → Value} {sz : Nat} {rows : List (List D)} (ht : Tree imm w om f (.sl true sz rows)) {i l : Nat} {x : D} (hx : cellIn rows (i, l) = some x) (hk : x.okM = true) :
    RO imm w (hideD f i l x) (f [(i, l)]) ∧ (hideD f i l x).solid = true ∧ (hideD f i l x).isOwn = false ∧ (f [(i, l)]).oneCell' = true := by
  have hl := ht [(i, l)] x (by simp [D.atU, hx])
  by_cases ho : x.isOwn = true
  · have e : hideD f i l x = .lit (f [(i, l)]) := by simp [hideD, ho]
    rw [e]
    refine ⟨RO.lit.2 rfl, rfl, rfl, ?_⟩
    cases x with
    | sl u sz' rows' =>
      cases u with
      | false => simp [D.isOwn] at ho
      | true => rcases hl with ⟨_, e⟩ | ⟨b, o, c, e, _⟩ <;> rw [e] <;> rfl
    | _ => simp [D.isOwn] at ho
  · have ho' : x.isOwn = false := by simpa using ho
    have e : hideD f i l x = x := by simp [hideD, ho]
    rw [e]
    obtain ⟨h1, h2⟩ := hl.ro ho'
    have hkF : x.okF = true := by
      cases x with
      | sl u sz' rows' =>
        cases u with
        | true => simp [D.isOwn] at ho'
        | false => rfl
      | _ => exact hk
    exact ⟨h1, h2, ho', (okF_spec hkF h1).2.2⟩

theorem tree_src {imm : Nat → Prop} {om : Nat → Option Path} {f : Path → Value} {sz : Nat} {rows : List (List D)} (ht : Tree imm w om f (.sl true sz rows)) (hk : rows.all (·.all (·.okM)) = true) {tx : TypeId} (htx : isSliceT P tx = true) :
    ∃ news : List Value, Src P sz tx (f []) rows.length news w ∧ ∀ (i : Nat) row, rows[i]? = some row → row.length = sz ∧ ∀ (l : Nat) x, row[l]? = some x → news[i * sz + l]? = some (f [(i, l)]) := by
  obtain ⟨e', he⟩ := isSliceT_spec htx
  rcases ht [] _ rfl with ⟨e1, e2⟩ | ⟨b, o, c, e1, e2, e3, e4, e5⟩
  · subst e1
    rw [e2]
    exact ⟨[], Src.ofNil w he 0, fun i row hr => by simp at hr⟩
  · rw [e1]
    obtain ⟨news, hn⟩ : ∃ news : List Value, news = (List.range (rows.length * sz)).map fun j => (w.cell? ((⟨b, o, Option.none⟩ : Addr).add j)).getD undef := ⟨_, rfl⟩
    have hget : ∀ (i : Nat) row, rows[i]? = some row → ∀ (l : Nat) x, row[l]? = some x → news[i * sz + l]? = some (f [(i, l)]) ∧ w.cell? ((⟨b, o, Option.none⟩ : Addr).add (i * sz + l)) = some (f [(i, l)]) ∧ (f [(i, l)]).oneCell' = true := by
      intro i row hrow l x hx
      have hl := (List.getElem?_eq_some_iff.1 hx).1
      have hi := (List.getElem?_eq_some_iff.1 hrow).1
      have hlen := (e5 i row hrow).1
      have hlt := mul_lt_row (sz := sz) (m := l) hi (by omega)
      have hc : w.cell? ((⟨b, o, Option.none⟩ : Addr).add (i * sz + l)) = some (f [(i, l)]) := by
        rw [Addr.add_mid, ← Nat.add_assoc]; exact (e5 i row hrow).2 l (by omega)
      have hkx : x.okM = true := List.all_eq_true.1 (List.all_eq_true.1 hk row (List.mem_of_getElem? hrow)) x (List.mem_of_getElem? hx)
      refine ⟨?_, hc, (tree_cell ht (cellIn_some.2 ⟨row, hrow, hx⟩) hkx).2.2.2⟩
      rw [hn]
      simp [hlt, hc]
    have hall : ∀ j, j < rows.length * sz → ∃ u, w.cell? ((⟨b, o, Option.none⟩ : Addr).add j) = some u ∧ u.oneCell' = true := by
      intro j hj
      have hpos : 0 < sz := by
        rcases Nat.eq_zero_or_pos sz with e | e
        · rw [e] at hj; simp at hj
        · exact e
      have hi : j / sz < rows.length := Nat.div_lt_of_lt_mul (by rw [Nat.mul_comm]; exact hj)
      have hl := Nat.mod_lt j hpos
      have hrow : rows[j / sz]? = some rows[j / sz] := List.getElem?_eq_getElem hi
      have hrl := (e5 _ _ hrow).1
      obtain ⟨_, u2, u3⟩ := hget _ _ hrow (j % sz) (rows[j / sz][j % sz]'(by rw [hrl]; exact hl)) (List.getElem?_eq_getElem _)
      rw [Nat.div_add_mod'] at u2
      exact ⟨_, u2, u3⟩
    refine ⟨news, Src.ofSlice w he _ rows.length c news (by rw [hn]; simp) (fun j u hu => ?_) (fun u hu => ?_), fun i row hrow => ⟨(e5 i row hrow).1, fun l y hy => (hget i row hrow l y hy).1⟩⟩
    · have hj := (List.getElem?_eq_some_iff.1 hu).1
      rw [hn] at hj; simp at hj
      obtain ⟨u', h1, _⟩ := hall j hj
      rw [hn] at hu
      simp [hj, h1] at hu
      rw [← hu]; exact h1
    · rw [hn] at hu
      obtain ⟨j, hj, rfl⟩ := List.mem_map.1 hu
      obtain ⟨u', h1, h2⟩ := hall j (by simpa using hj)
      rw [h1]; exact h2

def appendM (P : Program) (σ : St) (t tx : TypeId) (s x : Operand) (d : Nat) : Option (St × List Pl) :=
  match x with
  | .tmp i => match σ.sl i with
    | .one (.sl true szx rx) => match tel P t, ((σ.setTop (.s i) 0 0 .dead).bump (.s i) 0 0).rd s with
      | some e, .one db => match tsz P e, tbytes P e, tzero P e with
        | some sz, some by_, some zs =>
          if i < σ.n ∧ isSliceT P tx = true ∧ zs.length = sz ∧ szx = sz ∧ rx.all (·.all (·.okM)) = true then match assignS ((σ.setTop (.s i) 0 0 .dead).bump (.s i) 0 0) d (.one db) with
            | some (σ1, t1) => match (σ1.nilOwn d sz).sl d with
              | .one (.sl true sz' rows) => if sz' = sz ∧ (rows.length + rx.length) * by_ ≤ 140737488355328 ∧ rows.length + rx.length ≤ 9223372036854775807 ∧ rows.all (·.length == sz) = true then
                  some ((((σ1.nilOwn d sz).setTop (.s d) 0 0 (.sl true sz (rows ++ rx))).bump (.s d) 0 0).bumpC (.s d) 0 0, .s i :: (t1 ++ [.s d])) else Option.none
              | _ => Option.none
            | Option.none => Option.none
          else Option.none
        | _, _, _ => Option.none
      | _, _ => Option.none
    | _ => Option.none
  | _ => Option.none

theorem appendM_out (h : R G σ a w) {t tx : TypeId} {s x : Operand} (ho : o.op = .call { callee := .builtin .append, args := #[s, x], argTypes := #[t, tx] }) {d : Nat} (hd : o.dst = some d) {σ' : St} {tt : List Pl}
    (hs : appendM P σ t tx s x d = some (σ', tt)) : Out P G σ a w o σ' tt := by
  unfold appendM at hs
  split at hs
  · next i =>
    split at hs
    · next szx rx hsx =>
      split at hs
      · next e db he hrs =>
        split at hs
        · next sz by_ zs hsz hby hz =>
          split at hs
          · next hc =>
            obtain ⟨hin, htx, hzl, rfl, hk⟩ := hc
            split at hs
            · next σ1 t1 has =>
              split at hs
              · next sz' rows hsl =>
                split at hs
                · next hb =>
                  obtain ⟨rfl, hb1, hb2, hrl⟩ := hb
                  simp only [Option.some.injEq, Prod.mk.injEq] at hs; obtain ⟨rfl, rfl⟩ := hs
                  unfold assignS at has
                  split at has
                  · next hn =>
                    simp only [Option.some.injEq, Prod.mk.injEq] at has; obtain ⟨rfl, rfl⟩ := has
                    have hcx : cellIn (σ.rows (.s i)) (0, 0) = some (.sl true sz' rx) := by simp [St.rows, hsx, SV.rows, cellIn]
                    have htree := h.tree hcx
                    have hvx : a.eval (.tmp i) = G.val (.s i) [(0, 0)] := by
                      have := h.slots i hin; rw [hsx] at this; exact this
                    obtain ⟨news, hn1, hn2⟩ := tree_src (P := P) htree hk htx
                    obtain ⟨g1', g2', g3', g4'⟩ := drop_carry h (q := .s i) (k := 0) (j := 0) (by rw [hcx]; rfl)
                    have hsv := g1'.rd s
                    rw [hrs] at hsv
                    obtain ⟨z, hz1, hz2⟩ := Option.bind_eq_some_iff.1 hz
                    obtain ⟨ii, hi, hz3⟩ := Option.bind_eq_some_iff.1 hz1
                    obtain ⟨hl, hg⟩ := mapLit_spec hz2
                    have hisz : ii.size = sz' := by simpa [tsz, hi] using hsz
                    have hib : ii.bytes = by_ := by simpa [tbytes, hi] using hby
                    have hzc : z.cells.size = sz' := by rw [← hzl, hl]; simp
                    obtain ⟨G1, g1, g2, g3, g4, g5⟩ := g1'.putK hn hsv
                    obtain ⟨G2, q1, q2, q3, q4⟩ := g1.claims (p := .s d) (k := 0) (SV.width (.one db)) 0
                    obtain ⟨G3, r1, r2, r3, r4⟩ := q1.nilOwnK d sz'
                    have himm : G3.imm = G.imm := by rw [r4, q3, g3]; rfl
                    have hn3 : d < ((((((σ.setTop (.s i) 0 0 .dead).bump (.s i) 0 0)).put d (.one db)).claims (.s d) 0 0 (SV.width (.one db))).nilOwn d sz').n := by rw [r3.n, q4.n, g5.n]; exact hn
                    have hrl' : ∀ (r : Nat) row, rows[r]? = some row → row.length = sz' := fun r row hr => by
                      simpa using List.all_eq_true.1 hrl row (List.mem_of_getElem? hr)
                    obtain ⟨v', G4, w', k1, k2, k3, k4⟩ := r1.grow (d := d) (rx := hideRows (fun ρ => G.val (.s i) ((0, 0) :: ρ)) rx) hn3 hsl (tel_spec he) (ty := o.type) hi hz3 hisz hzc (x := a.eval (.tmp i)) (news := news)
                      (by rw [hisz, hvx]; simpa [hideRows] using hn1) (tx := tx)
                      (by
                        intro r row hr
                        obtain ⟨row0, h1, rfl⟩ := hide_row' hr
                        obtain ⟨h2, h3⟩ := hn2 r row0 h1
                        refine ⟨by simpa using h2, fun l y hy => ?_⟩
                        simp only [List.getElem?_mapIdx, Option.map_eq_some_iff] at hy
                        obtain ⟨x0, h4, rfl⟩ := hy
                        have hkx : x0.okM = true := List.all_eq_true.1 (List.all_eq_true.1 hk row0 (List.mem_of_getElem? h1)) x0 (List.mem_of_getElem? h4)
                        obtain ⟨c1, c2, c3, _⟩ := tree_cell htree (cellIn_some.2 ⟨row0, h1, h4⟩) hkx
                        rw [himm]
                        exact ⟨_, h3 l x0 h4, c1, c2, c3⟩)
                      (by rw [hib]; simpa [hideRows] using hb1) (by simpa [hideRows] using hb2)
                    have hkp := ((((g2'.trans g2).trans q2).trans r2).trans k3)
                    have hn4 : ∀ b ρ, G.own b = some (.s i, (0, 0) :: ρ) → (G.drop (.s i) 0 0).own b = Option.none ∧ G4.own b = Option.none ∧ SameAt w w' b ∧ b < w.heap.size := fun b ρ hb => by
                      have h0 : (G.drop (.s i) 0 0).own b = Option.none := by
                        have : under (.s i) 0 0 (.s i, (0, 0) :: ρ) = some ρ := under_some.2 ⟨rfl, rfl⟩
                        simp [Gh.drop, hb, this]
                      have hlt := h.ownLt b _ hb
                      obtain ⟨c1, c2⟩ := ((g2.trans q2).trans (r2.trans k3)).free b hlt h0
                      exact ⟨h0, c2, SameAt.of_heap c1, hlt⟩
                    have hi4 : ∀ b, G4.imm b → G.imm b ∨ w.heap.size ≤ b ∨ ∃ p ρ, (G.drop (.s i) 0 0).own b = some (p, ρ) := fun b hb => by
                      rcases ((g2.trans q2).trans (r2.trans k3)).immB b hb with c | c | ⟨p, ρ, _, c⟩
                      · exact .inl c
                      · exact .inr (.inl c)
                      · exact .inr (.inr ⟨p, ρ, c⟩)
                    have hcell4 : cellIn (((((((((σ.setTop (.s i) 0 0 .dead).bump (.s i) 0 0)).put d (.one db)).claims (.s d) 0 0 (SV.width (.one db))).nilOwn d sz').setTop (.s d) 0 0 (.sl true sz' (rows ++ hideRows (fun ρ => G.val (.s i) ((0, 0) :: ρ)) rx))).bump (.s d) 0 0).rows (.s d)) (0, 0) = some (.sl true sz' (rows ++ hideRows (fun ρ => G.val (.s i) ((0, 0) :: ρ)) rx)) := by
                      show cellIn ((St.setTop _ (.s d) 0 0 _).rows (.s d)) (0, 0) = _
                      exact setTop_same (by simp [St.rows, hsl, SV.rows, cellIn])
                    have hkpi : ∀ b, G.imm b → G4.imm b ∧ SameAt w w' b := fun b hb => ⟨hkp.imm b hb, hkp.sameFree (h.immLt b hb) (h.immOwn b hb)⟩
                    obtain ⟨G5, m1, m2, m3, m4, m5, m6, hfx⟩ := k2.unhide (rows := rows ++ rx) hcell4 (by simp [hideRows]) (fun r row hr => by
                        rcases Nat.lt_or_ge r rows.length with hlt | hge
                        · rw [List.getElem?_append_left hlt] at hr; exact hrl' r row hr
                        · rw [List.getElem?_append_right hge] at hr; exact (hn2 _ row hr).1)
                      (om := fun r l b => if rows.length ≤ r then ((G.own b).bind (under (.s i) 0 0)).bind (strip (r - rows.length, l)) else Option.none) (fun r l y hy => by
                        obtain ⟨row, hr, hyl⟩ := cellIn_some.1 hy
                        rcases Nat.lt_or_ge r rows.length with hlt | hge
                        · rw [List.getElem?_append_left hlt] at hr
                          exact .inl (cellIn_some.2 ⟨row, by rw [List.getElem?_append_left hlt]; exact hr, hyl⟩)
                        · rw [List.getElem?_append_right hge] at hr
                          have hxc : cellIn rx (r - rows.length, l) = some y := cellIn_some.2 ⟨row, hr, hyl⟩
                          have hL : cellIn (rows ++ hideRows (fun ρ => G.val (.s i) ((0, 0) :: ρ)) rx) (r, l) = some (hideD (fun ρ => G.val (.s i) ((0, 0) :: ρ)) (r - rows.length) l y) :=
                            cellIn_some.2 ⟨_, by rw [List.getElem?_append_right hge]; exact hide_row hr, by simp [List.getElem?_mapIdx, hyl]⟩
                          by_cases hyo : y.isOwn = true
                          · refine .inr ⟨fun ρ => G.val (.s i) ((0, 0) :: (r - rows.length, l) :: ρ), ?_, by simp only [if_pos hge]; exact ((htree.sub hxc).mono (fun b hb => (hkpi b hb).1) (fun b hb => (hkpi b hb).2) (fun b π hb => by
                              obtain ⟨ρ, c1, c2⟩ := Option.bind_eq_some_iff.1 hb
                              obtain ⟨⟨q, τ⟩, c3, c4⟩ := Option.bind_eq_some_iff.1 c1
                              obtain ⟨rfl, rfl⟩ := under_some.1 c4
                              exact (hn4 b ρ c3).2.2.1)), ?_⟩
                            · rw [hL]; simp [hideD, hyo]
                            · cases y with
                              | sl u s' r' => rfl
                              | _ => simp [D.isOwn] at hyo
                          · exact .inl (by rw [hL]; simp [hideD, hyo])) (fun r l r' l' b π π' hb hb' => by
                        split at hb
                        · split at hb'
                          · obtain ⟨ρ, c1, c2⟩ := Option.bind_eq_some_iff.1 hb
                            obtain ⟨ρ', c1', c2'⟩ := Option.bind_eq_some_iff.1 hb'
                            rw [c1] at c1'; cases c1'
                            rw [strip_some] at c2 c2'
                            rw [c2] at c2'
                            simp only [List.cons.injEq, Prod.mk.injEq] at c2'
                            exact ⟨by omega, c2'.1.2⟩
                          · cases hb'
                        · cases hb) (fun r l b π hb => by
                        split at hb
                        · obtain ⟨ρ, c1, c2⟩ := Option.bind_eq_some_iff.1 hb
                          obtain ⟨⟨q, τ⟩, c3, c4⟩ := Option.bind_eq_some_iff.1 c1
                          obtain ⟨rfl, rfl⟩ := under_some.1 c4
                          obtain ⟨d1, d2, d3, d4⟩ := hn4 b ρ c3
                          refine ⟨d2, fun hi => ?_, Nat.lt_of_lt_of_le d4 hkp.size⟩
                          rcases hi4 b hi with c | c | ⟨p, ρ', c⟩
                          · rw [h.immOwn b c] at c3; cases c3
                          · omega
                          · rw [d1] at c; cases c
                        · cases hb)
                    rw [setTop_bump, setTop_again] at m1 hfx
                    have hval : (a.put (some d) (a.eval s)).tmps.getD d undef = a.eval s := getD_set_same _ _ _ _ (by rw [h.size]; exact hn)
                    rw [hval] at k1
                    rw [put_put] at m1
                    refine ⟨_, G5, w', ?_, .inl ⟨v', rfl, by rw [hd]; exact m1⟩, (hkp.unhide m2 m5 (fun b hb => (m6 b hb).imp id ?_)).mono (fun p hp => ?_), ((((g3'.trans g5).trans q4).trans r3).trans k4).trans hfx⟩
                    · rw [run_builtin ho]
                      simp only [builtin]
                      exact run_v2 (by simpa using k1)
                    · rintro ⟨r, l, π, hb⟩
                      split at hb
                      · obtain ⟨ρ, c1, c2⟩ := Option.bind_eq_some_iff.1 hb
                        obtain ⟨⟨q, τ⟩, c3, c4⟩ := Option.bind_eq_some_iff.1 c1
                        obtain ⟨rfl, rfl⟩ := under_some.1 c4
                        exact ⟨_, _, by simp, c3⟩
                      · cases hb
                    · simp only [List.mem_append, List.mem_cons, List.not_mem_nil, or_false] at hp ⊢
                      rcases hp with (((hp | hp) | hp) | hp) | hp <;> simp [hp]
                  · cases has
                · cases hs
              · cases hs
            · cases hs
          · cases hs
        · cases hs
      · cases hs
    · cases hs
  · cases hs

end
end Go.AI
