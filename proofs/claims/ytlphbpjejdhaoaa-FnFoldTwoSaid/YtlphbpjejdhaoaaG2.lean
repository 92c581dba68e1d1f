/- One fold: what the program answers, and what the specification answers. No condition. -/
import Derived.Test.YtlphbpjejdhaoaaG1
open Go Go.AI Go.Proofs
set_option maxRecDepth 100000
set_option maxHeartbeats 4000000
set_option linter.unusedSimpArgs false
set_option linter.unusedVariables false
namespace Go.Proofs.Ytlphbpjejdhaoaa
attribute [local irreducible] awpOps opA callA Then Fork SWP

def renF (a b : ByteArray) (f : F) : F := ⟨f.nm, f.wk, f.bd.map (ren a b)⟩
def outU (u : List F) (a b : ByteArray) (k : Nat) : Nat → List F
  | 0 => []
  | n + 1 => if n = k then outU u a b k n else outU u a b k n ++ (u[n]?.toList.map (renF a b))
theorem outU_hit {u : List F} {a b : ByteArray} {k n : Nat} (h : n = k) : outU u a b k (n + 1) = outU u a b k n := by simp [outU, h]
theorem outU_step {u : List F} {a b : ByteArray} {k n : Nat} (h : n < u.length) (hk : n ≠ k) : outU u a b k (n + 1) = outU u a b k n ++ [renF a b u[n]] := by simp [outU, h, hk]
theorem outU_len {u : List F} {a b : ByteArray} {k : Nat} : ∀ n, (outU u a b k n).length ≤ n
  | 0 => Nat.le_refl _
  | n + 1 => by
    have h1 := outU_len (u := u) (a := a) (b := b) (k := k) n
    have h2 : (u[n]?.toList).length ≤ 1 := by cases u[n]? <;> simp
    simp only [outU]
    split
    · omega
    · simp; omega
theorem outU_mem {u : List F} {a b : ByteArray} {k : Nat} : ∀ n {f : F}, f ∈ outU u a b k n → ∃ g ∈ u, f = renF a b g
  | 0, f, h => by simp [outU] at h
  | n + 1, f, h => by
    simp only [outU] at h
    split at h
    · exact outU_mem n h
    · rcases List.mem_append.1 h with h | h
      · exact outU_mem n h
      · obtain ⟨g, h1, rfl⟩ := List.mem_map.1 h
        exact ⟨g, List.mem_of_getElem? (Option.mem_toList.1 h1), rfl⟩
def nmU (u : List F) (i : Nat) : ByteArray := (u[i]?.map F.nm).getD ⟨#[]⟩
theorem nmU_lt {u : List F} {i : Nat} (h : i < u.length) : nmU u i = u[i].nm := by simp [nmU, h]
def onceU (u : List F) (x y : Nat) : List F := outU u (nmU u y) (nmU u x) y u.length
def OneS (u : List F) (b : Bool) (r : List F) : Prop := ∃ i j, TwoS u i j b ∧ r = if b = true then onceU u i.toNat j.toNat else u
theorem one_unique {u : List F} {b b' : Bool} {r r' : List F} (h : OneS u b r) (h' : OneS u b' r') : b = b' ∧ r = r' := by
  obtain ⟨i, j, h1, rfl⟩ := h
  obtain ⟨i', j', h2, rfl⟩ := h'
  obtain ⟨rfl, rfl, rfl⟩ := two_unique h1 h2
  exact ⟨rfl, rfl⟩
def FoldS (u r : List F) : Prop := if keepOk u = true then ∃ b, OneS u b r else r = []
theorem fold_unique {u r r' : List F} (h : FoldS u r) (h' : FoldS u r') : r = r' := by
  unfold FoldS at h h'
  split at h
  · next hk =>
    rw [if_pos hk] at h'
    obtain ⟨b, h⟩ := h
    obtain ⟨b', h'⟩ := h'
    exact (one_unique h h').2
  · next hk => rw [if_neg hk] at h'; rw [h, h']
theorem keepOk_pos {u : List F} {i : Nat} (hk : keepOk u = true) (hi : i < u.length) : 0 < u[i].bd.length := by
  simp only [keepOk, Bool.and_eq_true, namesOk, List.all_eq_true, List.mem_range] at hk
  have h1 := hk.2.1 i hi
  simp only [okAt, hi, dif_pos, Bool.and_eq_true, funOk, decide_eq_true_eq] at h1
  omega
theorem small_ren {a b : ByteArray} {l : List I} (hb : b.size ≤ 1048576) (h : small l) : small (l.map (ren a b)) := by
  refine ⟨by simpa using h.1, fun x hx => ?_⟩
  obtain ⟨y, hy, rfl⟩ := List.mem_map.1 hx
  unfold ren
  split
  · exact hb
  · exact h.2 y hy
theorem nmU_size {u : List F} (hU : smallU u) (i : Nat) : (nmU u i).size ≤ 1048576 := by
  unfold nmU
  cases h : u[i]? with
  | none => exact Nat.zero_le _
  | some f => exact (hU.2 f (List.mem_of_getElem? h)).1
theorem smallU_once {u : List F} (hU : smallU u) (x y : Nat) : smallU (onceU u x y) := by
  have h1 := hU.1
  have h2 := outU_len (u := u) (a := nmU u y) (b := nmU u x) (k := y) u.length
  refine ⟨by unfold onceU; omega, fun f hf => ?_⟩
  obtain ⟨g, hg, rfl⟩ := outU_mem _ hf
  exact ⟨(hU.2 g hg).1, small_ren (nmU_size hU x) (hU.2 g hg).2⟩
theorem smallU_fold {u r : List F} (hU : smallU u) (h : FoldS u r) : smallU r := by
  unfold FoldS at h
  split at h
  · obtain ⟨b, i, j, _, rfl⟩ := h
    split
    · exact smallU_once hU _ _
    · exact hU
  · subst h; exact ⟨by simp, fun f hf => by simp at hf⟩

theorem c33 (u : List F) (hU : smallU u) (E) : AC Try.prog 19 [.one (.sl false 3 (u.map fc))] E (fun sv _ => ∃ r, sv = .one (.sl true 3 ((r).map fcO)) ∧ FoldS u r) := by
  have hu := hU.1
  unfold FoldS
  cases hk : keepOk u
  · refine AC_of_swp (n := 49) (rs := [.tmp 2]) hf19 rfl rfl rfl rfl rfl ?_
    repeat' (first
      | refine swp_ret_nil 2 3 ?_
      | refine swp_seq ?_ | refine swp_region ?_ | refine swp_block ?_ | refine swp_skip ?_ | refine swp_ret ?_ | refine swp_exit ?_
      | (refine swp_cond (by simp -implicitDefEqProofs only [go_sem, Nat.reduceLT, Nat.reduceEqDiff, Nat.reduceAdd, Nat.reduceLeDiff, Nat.reduceMul, Nat.reduceSub, Int.reduceEq, reduceCtorEq, reduceIte, *] <;> rfl) (fun h => ?_) (fun h => ?_) <;> try simp only [Int.ofNat_lt, Int.ofNat_le, gdV, decide_eq_true_eq, decide_eq_false_iff_not, Bool.not_eq_true', Bool.not_eq_false', reduceCtorEq, Bool.true_eq_false, Bool.false_eq_true] at h)
      | simp -implicitDefEqProofs only [go_sem, Nat.reduceLT, Nat.reduceEqDiff, Nat.reduceAdd, Nat.reduceLeDiff, Nat.reduceMul, Nat.reduceSub, Int.reduceEq, reduceCtorEq, reduceIte, *]
      | (refine call_view (f := .func 11) (by simp -implicitDefEqProofs only [go_sem, Nat.reduceLT, Nat.reduceEqDiff, Nat.reduceAdd, Nat.reduceLeDiff, Nat.reduceMul, Nat.reduceSub, Int.reduceEq, reduceCtorEq, reduceIte] <;> rfl) (by simp -implicitDefEqProofs only [go_sem, Nat.reduceLT, Nat.reduceEqDiff, Nat.reduceAdd, Nat.reduceLeDiff, Nat.reduceMul, Nat.reduceSub, Int.reduceEq, reduceCtorEq, reduceIte] <;> rfl) (by simp -implicitDefEqProofs only [go_sem, Nat.reduceLT, Nat.reduceEqDiff, Nat.reduceAdd, Nat.reduceLeDiff, Nat.reduceMul, Nat.reduceSub, Int.reduceEq, reduceCtorEq, reduceIte]) (by first | trivial | simp) he11 (fun E => c61 _ hU E) (fun sv E' hQ => ?_); subst hQ)
      | (refine fork_intro (fun h => ?_) (fun h => ?_) <;> try simp only [Int.ofNat_lt, Int.ofNat_le, gdV, decide_eq_true_eq, decide_eq_false_iff_not, Bool.not_eq_true', Bool.not_eq_false', reduceCtorEq, Bool.true_eq_false, Bool.false_eq_true] at h))
    all_goals exact ⟨by simp, [], rfl, by simp⟩
  refine AC_of_swp (n := 49) (rs := [.tmp 2]) hf19 rfl rfl rfl rfl rfl ?_
  repeat' (first
    | refine swp_seq ?_ | refine swp_region ?_ | refine swp_block ?_ | refine swp_skip ?_ | refine swp_ret ?_ | refine swp_exit ?_
    | (refine swp_cond (by simp -implicitDefEqProofs only [go_sem, Nat.reduceLT, Nat.reduceEqDiff, Nat.reduceAdd, Nat.reduceLeDiff, Nat.reduceMul, Nat.reduceSub, Int.reduceEq, reduceCtorEq, reduceIte, *] <;> rfl) (fun h => ?_) (fun h => ?_) <;> try simp only [Int.ofNat_lt, Int.ofNat_le, gdV, decide_eq_true_eq, decide_eq_false_iff_not, Bool.not_eq_true', Bool.not_eq_false', reduceCtorEq, Bool.true_eq_false, Bool.false_eq_true] at h)
    | simp -implicitDefEqProofs only [go_sem, Nat.reduceLT, Nat.reduceEqDiff, Nat.reduceAdd, Nat.reduceLeDiff, Nat.reduceMul, Nat.reduceSub, Int.reduceEq, reduceCtorEq, reduceIte, *]
    | (refine call_view (f := .func 11) (by simp -implicitDefEqProofs only [go_sem, Nat.reduceLT, Nat.reduceEqDiff, Nat.reduceAdd, Nat.reduceLeDiff, Nat.reduceMul, Nat.reduceSub, Int.reduceEq, reduceCtorEq, reduceIte] <;> rfl) (by simp -implicitDefEqProofs only [go_sem, Nat.reduceLT, Nat.reduceEqDiff, Nat.reduceAdd, Nat.reduceLeDiff, Nat.reduceMul, Nat.reduceSub, Int.reduceEq, reduceCtorEq, reduceIte] <;> rfl) (by simp -implicitDefEqProofs only [go_sem, Nat.reduceLT, Nat.reduceEqDiff, Nat.reduceAdd, Nat.reduceLeDiff, Nat.reduceMul, Nat.reduceSub, Int.reduceEq, reduceCtorEq, reduceIte]) (by first | trivial | simp) he11 (fun E => c61 _ hU E) (fun sv E' hQ => ?_); subst hQ)
    | (refine call_view (f := .func 47) (by simp -implicitDefEqProofs only [go_sem, Nat.reduceLT, Nat.reduceEqDiff, Nat.reduceAdd, Nat.reduceLeDiff, Nat.reduceMul, Nat.reduceSub, Int.reduceEq, reduceCtorEq, reduceIte] <;> rfl) (by simp -implicitDefEqProofs only [go_sem, Nat.reduceLT, Nat.reduceEqDiff, Nat.reduceAdd, Nat.reduceLeDiff, Nat.reduceMul, Nat.reduceSub, Int.reduceEq, reduceCtorEq, reduceIte] <;> rfl) (by simp -implicitDefEqProofs only [go_sem, Nat.reduceLT, Nat.reduceEqDiff, Nat.reduceAdd, Nat.reduceLeDiff, Nat.reduceMul, Nat.reduceSub, Int.reduceEq, reduceCtorEq, reduceIte]) (by first | trivial | simp) he47 (fun E => c62 _ hU E) (fun sv E' hQ => ?_); obtain ⟨i1, j1, b1, hQ, hT1⟩ := hQ; subst hQ; unfold twoSV; refine ⟨by simp [SV.Fresh], ?_⟩)
    | (refine call_view (f := .func 53) (by simp -implicitDefEqProofs only [go_sem, Nat.reduceLT, Nat.reduceEqDiff, Nat.reduceAdd, Nat.reduceLeDiff, Nat.reduceMul, Nat.reduceSub, Int.reduceEq, reduceCtorEq, reduceIte] <;> rfl) (by simp -implicitDefEqProofs only [go_sem, Nat.reduceLT, Nat.reduceEqDiff, Nat.reduceAdd, Nat.reduceLeDiff, Nat.reduceMul, Nat.reduceSub, Int.reduceEq, reduceCtorEq, reduceIte] <;> rfl) (by simp -implicitDefEqProofs only [go_sem, Nat.reduceLT, Nat.reduceEqDiff, Nat.reduceAdd, Nat.reduceLeDiff, Nat.reduceMul, Nat.reduceSub, Int.reduceEq, reduceCtorEq, reduceIte]) (by first | trivial | simp) he53 (fun E => c75 _ hU E) (fun sv E' hQ => ?_); subst hQ; refine ⟨by simp [SV.Fresh, -fresh_sl, -List.map_map, frO], ?_⟩)
    | (refine fork_intro (fun h => ?_) (fun h => ?_) <;> try simp only [Int.ofNat_lt, Int.ofNat_le, gdV, decide_eq_true_eq, decide_eq_false_iff_not, Bool.not_eq_true', Bool.not_eq_false', reduceCtorEq, Bool.true_eq_false, Bool.false_eq_true] at h))
  · exact ⟨by simp, u, rfl, b1, i1, j1, hT1, by simp [h]⟩
  obtain ⟨x, y, rfl, rfl, hxy, hal, _⟩ : ∃ x y : Nat, i1 = x ∧ j1 = y ∧ x < y ∧ al u x y ∧ ∀ x' y', x' < y' → (x' < x ∨ (x' = x ∧ y' < y)) → ¬ al u x' y' := by
    rcases hT1 with ⟨_, h'⟩ | ⟨h', _⟩
    · exact h'
    · rw [h] at h'; cases h'
  have hx1 := (al_lt hal).1
  have hy1 := (al_lt hal).2
  obtain ⟨a, hya⟩ : ∃ a, u[y].nm = a := ⟨_, rfl⟩
  obtain ⟨b, hxb⟩ : ∃ b, u[x].nm = b := ⟨_, rfl⟩
  have hres : OneS u b1 (outU u a b y u.length) := ⟨x, y, hT1, by simp [h, onceU, nmU_lt hy1, nmU_lt hx1, hya, hxb]⟩
  clear hT1 hal
  refine swp_nil 6 3 ?_
  refine swp_loop (ι := { i : Nat // i ≤ u.length }) (fun i => fr 49 [.one (.sl false 3 (u.map fc)), .none, .none, .one (.lit (.int .i64 (x : Int))), .one (.lit (.int .i64 (y : Int))), .one (.lit (.bool true)), .one (.sl true 3 ((outU u a b y i.1).map fcO)), .none, .none, .none, .none, .none, .none, .none, .none, .none, .none, .none, .none, .none, .none, .none, .one (.sl false 3 (u.map fc)), .one (.lit (.int .i64 (u.length : Int))), .one (.lit (.int .i64 (i.1 : Int)))] [])
    (fun i => u.length - i.1) ⟨0, Nat.zero_le _⟩ ?_ ?_
  · refine le_fr ?_ ?_ ?_ ?_ <;> simp -implicitDefEqProofs only [go_sem, Nat.reduceLT, Nat.reduceEqDiff, Nat.reduceAdd, Nat.reduceLeDiff, Nat.reduceMul, Nat.reduceSub, Int.reduceEq, reduceCtorEq, reduceIte, *] <;> first | rfl | (rw [wrap64 (by omega) (by omega)]; rfl) | (simp; done) | exact ⟨rfl, rfl⟩ | (refine ⟨rfl, ?_⟩; rw [wrap64 (by omega) (by omega)]; rfl)
  rintro ⟨i, hi⟩
  simp only
  refine swp_deep ?_
  have hle := outU_len (u := u) (a := a) (b := b) (k := y) i
  have hstep : ∀ h : i < u.length, i ≠ y → outU u a b y (i + 1) = outU u a b y i ++ [renF a b u[i]] := fun h h2 => outU_step h h2
  have hhit : i = y → outU u a b y (i + 1) = outU u a b y i := outU_hit
  have hfin : ¬ i < u.length → outU u a b y i = outU u a b y u.length := fun h => by rw [show i = u.length by omega]
  generalize outU u a b y i = r at hstep hhit hle hfin
  have hA : (r.length + 1) * 48 ≤ 140737488355328 := by omega
  have hB : r.length + 1 ≤ 9223372036854775807 := by omega
  rcases Nat.lt_or_ge i u.length with hlt | hge
  case inr =>
    have hn : ¬ i < u.length := by omega
    repeat' (first
      | refine swp_seq ?_ | refine swp_region ?_ | refine swp_block ?_ | refine swp_skip ?_ | refine swp_ret ?_ | refine swp_exit ?_
      | (refine swp_cond (by simp -implicitDefEqProofs only [go_sem, Nat.reduceLT, Nat.reduceEqDiff, Nat.reduceAdd, Nat.reduceLeDiff, Nat.reduceMul, Nat.reduceSub, Int.reduceEq, reduceCtorEq, reduceIte, *] <;> rfl) (fun h => ?_) (fun h => ?_) <;> try simp only [Int.ofNat_lt, Int.ofNat_le, gdV, decide_eq_true_eq, decide_eq_false_iff_not, Bool.not_eq_true', Bool.not_eq_false', reduceCtorEq, Bool.true_eq_false, Bool.false_eq_true] at h)
      | simp -implicitDefEqProofs only [go_sem, Nat.reduceLT, Nat.reduceEqDiff, Nat.reduceAdd, Nat.reduceLeDiff, Nat.reduceMul, Nat.reduceSub, Int.reduceEq, reduceCtorEq, reduceIte, *]
      | (refine fork_intro (fun h => ?_) (fun h => ?_) <;> try simp only [Int.ofNat_lt, Int.ofNat_le, gdV, decide_eq_true_eq, decide_eq_false_iff_not, Bool.not_eq_true', Bool.not_eq_false', reduceCtorEq, Bool.true_eq_false, Bool.false_eq_true] at h))
    exact ⟨by simp, outU u a b y u.length, by first | rfl | rw [hfin hn], b1, hres⟩
  have hsm := (smallU_at hU hlt).2
  by_cases hiy : i = y
  · have hhit := hhit hiy
    have hne : ((i : Int) = (y : Int)) = True := by simp [hiy]
    subst hiy
    clear hstep
    repeat' (first
      | refine swp_seq ?_ | refine swp_region ?_ | refine swp_block ?_ | refine swp_skip ?_ | refine swp_ret ?_ | refine swp_exit ?_
      | (refine swp_cond (by simp -implicitDefEqProofs only [go_sem, Nat.reduceLT, Nat.reduceEqDiff, Nat.reduceAdd, Nat.reduceLeDiff, Nat.reduceMul, Nat.reduceSub, Int.reduceEq, reduceCtorEq, reduceIte, *] <;> rfl) (fun h => ?_) (fun h => ?_) <;> try simp only [Int.ofNat_lt, Int.ofNat_le, gdV, decide_eq_true_eq, decide_eq_false_iff_not, Bool.not_eq_true', Bool.not_eq_false', reduceCtorEq, Bool.true_eq_false, Bool.false_eq_true] at h)
      | simp -implicitDefEqProofs only [go_sem, Nat.reduceLT, Nat.reduceEqDiff, Nat.reduceAdd, Nat.reduceLeDiff, Nat.reduceMul, Nat.reduceSub, Int.reduceEq, reduceCtorEq, reduceIte, *]
      | (refine fork_intro (fun h => ?_) (fun h => ?_) <;> try simp only [Int.ofNat_lt, Int.ofNat_le, gdV, decide_eq_true_eq, decide_eq_false_iff_not, Bool.not_eq_true', Bool.not_eq_false', reduceCtorEq, Bool.true_eq_false, Bool.false_eq_true] at h))
    refine ⟨⟨i + 1, hlt⟩, by show u.length - (i + 1) < u.length - i; omega, ?_⟩
    clear hfin
    refine le_fr ?_ ?_ ?_ ?_ <;> simp -implicitDefEqProofs only [go_sem, Nat.reduceLT, Nat.reduceEqDiff, Nat.reduceAdd, Nat.reduceLeDiff, Nat.reduceMul, Nat.reduceSub, Int.reduceEq, reduceCtorEq, reduceIte, *] <;> first | rfl | (rw [wrap64 (by omega) (by omega)]; rfl) | (simp; done) | exact ⟨rfl, rfl⟩ | (refine ⟨rfl, ?_⟩; rw [wrap64 (by omega) (by omega)]; rfl)
  have hstep := hstep hlt hiy
  have hne : ¬ ((i : Int) = (y : Int)) := by omega
  repeat' (first
    | refine swp_seq ?_ | refine swp_region ?_ | refine swp_block ?_ | refine swp_skip ?_ | refine swp_ret ?_ | refine swp_exit ?_
    | (refine swp_cond (by simp -implicitDefEqProofs only [go_sem, Nat.reduceLT, Nat.reduceEqDiff, Nat.reduceAdd, Nat.reduceLeDiff, Nat.reduceMul, Nat.reduceSub, Int.reduceEq, reduceCtorEq, reduceIte, *] <;> rfl) (fun h => ?_) (fun h => ?_) <;> try simp only [Int.ofNat_lt, Int.ofNat_le, gdV, decide_eq_true_eq, decide_eq_false_iff_not, Bool.not_eq_true', Bool.not_eq_false', reduceCtorEq, Bool.true_eq_false, Bool.false_eq_true] at h)
    | simp -implicitDefEqProofs only [go_sem, Nat.reduceLT, Nat.reduceEqDiff, Nat.reduceAdd, Nat.reduceLeDiff, Nat.reduceMul, Nat.reduceSub, Int.reduceEq, reduceCtorEq, reduceIte, *]
    | (refine swp_draw (id := 11) [.s 32, .s 44, .s 45, .s 46, .s 6] mixed ?_; show DW _ _ _ _ 16 (Array.replicate 16 false) _ _; refine dw_takes [1, 2, 3, 4, 5, 6, 7, 8, 9, 10, 11] (fuel := 5) rfl (by kernel_rfl) ?_; simp -implicitDefEqProofs only [go_sem, Nat.reduceLT, Nat.reduceEqDiff, Nat.reduceAdd, Nat.reduceLeDiff, Nat.reduceMul, Nat.reduceSub, Int.reduceEq, reduceCtorEq, reduceIte, *]; refine dw_twoA 0 12 (by kernel_rfl) ?T1 ?F1; (case' T1 => (simp -implicitDefEqProofs only [go_sem, Nat.reduceLT, Nat.reduceEqDiff, Nat.reduceAdd, Nat.reduceLeDiff, Nat.reduceMul, Nat.reduceSub, Int.reduceEq, reduceCtorEq, reduceIte, *]; refine ⟨by simp, ?_⟩; refine dw_nextA 12 (by kernel_rfl) ?_; simp -implicitDefEqProofs only [go_sem, Nat.reduceLT, Nat.reduceEqDiff, Nat.reduceAdd, Nat.reduceLeDiff, Nat.reduceMul, Nat.reduceSub, Int.reduceEq, reduceCtorEq, reduceIte, *]; (first | (refine call_view (f := .func 44) (by simp -implicitDefEqProofs only [go_sem, Nat.reduceLT, Nat.reduceEqDiff, Nat.reduceAdd, Nat.reduceLeDiff, Nat.reduceMul, Nat.reduceSub, Int.reduceEq, reduceCtorEq, reduceIte] <;> rfl) (by simp -implicitDefEqProofs only [go_sem, Nat.reduceLT, Nat.reduceEqDiff, Nat.reduceAdd, Nat.reduceLeDiff, Nat.reduceMul, Nat.reduceSub, Int.reduceEq, reduceCtorEq, reduceIte] <;> rfl) (by simp -implicitDefEqProofs only [go_sem, Nat.reduceLT, Nat.reduceEqDiff, Nat.reduceAdd, Nat.reduceLeDiff, Nat.reduceMul, Nat.reduceSub, Int.reduceEq, reduceCtorEq, reduceIte]) (by first | trivial | simp) he44 (fun E => c44 _ _ _ _ _ hsm E) (fun sv E' hQ => ?_); subst hQ; refine ⟨by simp [SV.Fresh, -fresh_sl, -List.map_map, frs], ?_⟩)); (try refine ⟨by simp [SV.Fresh], ?_⟩); refine dw_nextA 13 (by kernel_rfl) ?_; simp -implicitDefEqProofs only [go_sem, Nat.reduceLT, Nat.reduceEqDiff, Nat.reduceAdd, Nat.reduceLeDiff, Nat.reduceMul, Nat.reduceSub, Int.reduceEq, reduceCtorEq, reduceIte, *]; refine ⟨by simp, ?_⟩; refine dw_nextA 14 (by kernel_rfl) ?_; simp -implicitDefEqProofs only [go_sem, Nat.reduceLT, Nat.reduceEqDiff, Nat.reduceAdd, Nat.reduceLeDiff, Nat.reduceMul, Nat.reduceSub, Int.reduceEq, reduceCtorEq, reduceIte, *]; refine ⟨by simp, ?_⟩; refine dw_nextA 15 (by kernel_rfl) ?_; simp -implicitDefEqProofs only [go_sem, Nat.reduceLT, Nat.reduceEqDiff, Nat.reduceAdd, Nat.reduceLeDiff, Nat.reduceMul, Nat.reduceSub, Int.reduceEq, reduceCtorEq, reduceIte, *]; refine ⟨by simp, ?_⟩; refine dw_done (by kernel_rfl) ?_)); (case' F1 => (simp -implicitDefEqProofs only [go_sem, Nat.reduceLT, Nat.reduceEqDiff, Nat.reduceAdd, Nat.reduceLeDiff, Nat.reduceMul, Nat.reduceSub, Int.reduceEq, reduceCtorEq, reduceIte, *]; (first | (refine call_view (f := .func 44) (by simp -implicitDefEqProofs only [go_sem, Nat.reduceLT, Nat.reduceEqDiff, Nat.reduceAdd, Nat.reduceLeDiff, Nat.reduceMul, Nat.reduceSub, Int.reduceEq, reduceCtorEq, reduceIte] <;> rfl) (by simp -implicitDefEqProofs only [go_sem, Nat.reduceLT, Nat.reduceEqDiff, Nat.reduceAdd, Nat.reduceLeDiff, Nat.reduceMul, Nat.reduceSub, Int.reduceEq, reduceCtorEq, reduceIte] <;> rfl) (by simp -implicitDefEqProofs only [go_sem, Nat.reduceLT, Nat.reduceEqDiff, Nat.reduceAdd, Nat.reduceLeDiff, Nat.reduceMul, Nat.reduceSub, Int.reduceEq, reduceCtorEq, reduceIte]) (by first | trivial | simp) he44 (fun E => c44 _ _ _ _ _ hsm E) (fun sv E' hQ => ?_); subst hQ; refine ⟨by simp [SV.Fresh, -fresh_sl, -List.map_map, frs], ?_⟩)); (try refine ⟨by simp [SV.Fresh], ?_⟩); refine dw_twoA 0 13 (by kernel_rfl) ?T2 ?F2; (case' T2 => (simp -implicitDefEqProofs only [go_sem, Nat.reduceLT, Nat.reduceEqDiff, Nat.reduceAdd, Nat.reduceLeDiff, Nat.reduceMul, Nat.reduceSub, Int.reduceEq, reduceCtorEq, reduceIte, *]; refine ⟨by simp, ?_⟩; refine dw_nextA 13 (by kernel_rfl) ?_; simp -implicitDefEqProofs only [go_sem, Nat.reduceLT, Nat.reduceEqDiff, Nat.reduceAdd, Nat.reduceLeDiff, Nat.reduceMul, Nat.reduceSub, Int.reduceEq, reduceCtorEq, reduceIte, *]; refine ⟨by simp, ?_⟩; refine dw_nextA 14 (by kernel_rfl) ?_; simp -implicitDefEqProofs only [go_sem, Nat.reduceLT, Nat.reduceEqDiff, Nat.reduceAdd, Nat.reduceLeDiff, Nat.reduceMul, Nat.reduceSub, Int.reduceEq, reduceCtorEq, reduceIte, *]; refine ⟨by simp, ?_⟩; refine dw_nextA 15 (by kernel_rfl) ?_; simp -implicitDefEqProofs only [go_sem, Nat.reduceLT, Nat.reduceEqDiff, Nat.reduceAdd, Nat.reduceLeDiff, Nat.reduceMul, Nat.reduceSub, Int.reduceEq, reduceCtorEq, reduceIte, *]; refine ⟨by simp, ?_⟩; refine dw_done (by kernel_rfl) ?_)); (case' F2 => (simp -implicitDefEqProofs only [go_sem, Nat.reduceLT, Nat.reduceEqDiff, Nat.reduceAdd, Nat.reduceLeDiff, Nat.reduceMul, Nat.reduceSub, Int.reduceEq, reduceCtorEq, reduceIte, *]; refine ⟨by simp, ?_⟩; refine dw_nextA 0 (by kernel_rfl) ?_; simp -implicitDefEqProofs only [go_sem, Nat.reduceLT, Nat.reduceEqDiff, Nat.reduceAdd, Nat.reduceLeDiff, Nat.reduceMul, Nat.reduceSub, Int.reduceEq, reduceCtorEq, reduceIte, *]; refine ⟨by simp, ?_⟩; refine dw_nextA 14 (by kernel_rfl) ?_; simp -implicitDefEqProofs only [go_sem, Nat.reduceLT, Nat.reduceEqDiff, Nat.reduceAdd, Nat.reduceLeDiff, Nat.reduceMul, Nat.reduceSub, Int.reduceEq, reduceCtorEq, reduceIte, *]; refine ⟨by simp, ?_⟩; refine dw_nextA 15 (by kernel_rfl) ?_; simp -implicitDefEqProofs only [go_sem, Nat.reduceLT, Nat.reduceEqDiff, Nat.reduceAdd, Nat.reduceLeDiff, Nat.reduceMul, Nat.reduceSub, Int.reduceEq, reduceCtorEq, reduceIte, *]; refine ⟨by simp, ?_⟩; refine dw_done (by kernel_rfl) ?_)))))
    | (refine fork_intro (fun h => ?_) (fun h => ?_) <;> try simp only [Int.ofNat_lt, Int.ofNat_le, gdV, decide_eq_true_eq, decide_eq_false_iff_not, Bool.not_eq_true', Bool.not_eq_false', reduceCtorEq, Bool.true_eq_false, Bool.false_eq_true] at h))
  all_goals
    refine ⟨⟨i + 1, hlt⟩, by show u.length - (i + 1) < u.length - i; omega, ?_⟩
    rw [hstep]
    have e2 : r.map fcO ++ [[.lit (.string u[i].nm), .lit (.bool u[i].wk), .sl true 3 ((u[i].bd.map (ren a b)).map ic)]] = (r ++ [renF a b u[i]]).map fcO := by simp [fcO, renF]
    clear hstep hhit hfin
    refine le_fr ?_ ?_ ?_ ?_ <;> simp -implicitDefEqProofs only [go_sem, Nat.reduceLT, Nat.reduceEqDiff, Nat.reduceAdd, Nat.reduceLeDiff, Nat.reduceMul, Nat.reduceSub, Int.reduceEq, reduceCtorEq, reduceIte, *] <;> first | rfl | (rw [wrap64 (by omega) (by omega)]; rfl) | (simp; done) | exact ⟨rfl, rfl⟩ | (refine ⟨rfl, ?_⟩; rw [wrap64 (by omega) (by omega)]; rfl)

def oneSV (b : Bool) (r : List F) : SV := if b = true then .tup [(false, [.sl true 3 (r.map fcO)]), (false, [.lit (.bool true)])] else .tup [(false, [.sl false 3 (r.map fc)]), (false, [.lit (.bool false)])]
theorem c73 (u : List F) (hU : smallU u) (hk : keepOk u = true) (E) : AC Try.prog 51 [.one (.sl false 3 (u.map fc))] E (fun sv _ => ∃ b r, sv = oneSV b r ∧ OneS u b r) := by
  have hu := hU.1
  refine AC_of_swp (n := 47) (rs := [.tmp 2, .tmp 3]) hf51 rfl rfl rfl rfl rfl ?_
  repeat' (first
    | refine swp_seq ?_ | refine swp_region ?_ | refine swp_block ?_ | refine swp_skip ?_ | refine swp_ret ?_ | refine swp_exit ?_
    | (refine swp_cond (by simp -implicitDefEqProofs only [go_sem, Nat.reduceLT, Nat.reduceEqDiff, Nat.reduceAdd, Nat.reduceLeDiff, Nat.reduceMul, Nat.reduceSub, Int.reduceEq, reduceCtorEq, reduceIte, *] <;> rfl) (fun h => ?_) (fun h => ?_) <;> try simp only [Int.ofNat_lt, Int.ofNat_le, gdV, decide_eq_true_eq, decide_eq_false_iff_not, Bool.not_eq_true', Bool.not_eq_false', reduceCtorEq, Bool.true_eq_false, Bool.false_eq_true] at h)
    | simp -implicitDefEqProofs only [go_sem, Nat.reduceLT, Nat.reduceEqDiff, Nat.reduceAdd, Nat.reduceLeDiff, Nat.reduceMul, Nat.reduceSub, Int.reduceEq, reduceCtorEq, reduceIte, *]
    | (refine call_view (f := .func 54) (by simp -implicitDefEqProofs only [go_sem, Nat.reduceLT, Nat.reduceEqDiff, Nat.reduceAdd, Nat.reduceLeDiff, Nat.reduceMul, Nat.reduceSub, Int.reduceEq, reduceCtorEq, reduceIte] <;> rfl) (by simp -implicitDefEqProofs only [go_sem, Nat.reduceLT, Nat.reduceEqDiff, Nat.reduceAdd, Nat.reduceLeDiff, Nat.reduceMul, Nat.reduceSub, Int.reduceEq, reduceCtorEq, reduceIte] <;> rfl) (by simp -implicitDefEqProofs only [go_sem, Nat.reduceLT, Nat.reduceEqDiff, Nat.reduceAdd, Nat.reduceLeDiff, Nat.reduceMul, Nat.reduceSub, Int.reduceEq, reduceCtorEq, reduceIte]) (by first | trivial | simp) he54 (fun E => c60 _ hU E) (fun sv E' hQ => ?_); obtain ⟨i1, j1, b1, hQ, hT1⟩ := hQ; subst hQ; unfold twoSV; refine ⟨by simp [SV.Fresh], ?_⟩)
    | (refine fork_intro (fun h => ?_) (fun h => ?_) <;> try simp only [Int.ofNat_lt, Int.ofNat_le, gdV, decide_eq_true_eq, decide_eq_false_iff_not, Bool.not_eq_true', Bool.not_eq_false', reduceCtorEq, Bool.true_eq_false, Bool.false_eq_true] at h))
  · exact ⟨by simp, false, u, by simp [oneSV], i1, j1, h ▸ hT1, by simp⟩
  obtain ⟨x, y, rfl, rfl, hxy, hal, _⟩ : ∃ x y : Nat, i1 = x ∧ j1 = y ∧ x < y ∧ al u x y ∧ ∀ x' y', x' < y' → (x' < x ∨ (x' = x ∧ y' < y)) → ¬ al u x' y' := by
    rcases hT1 with ⟨_, h'⟩ | ⟨h', _⟩
    · exact h'
    · rw [h] at h'; cases h'
  have hx1 := (al_lt hal).1
  have hy1 := (al_lt hal).2
  obtain ⟨a, hya⟩ : ∃ a, u[y].nm = a := ⟨_, rfl⟩
  obtain ⟨b, hxb⟩ : ∃ b, u[x].nm = b := ⟨_, rfl⟩
  have hres : OneS u true (outU u a b y u.length) := ⟨x, y, h ▸ hT1, by simp [onceU, nmU_lt hy1, nmU_lt hx1, hya, hxb]⟩
  clear hT1 hal
  refine swp_loop (ι := { i : Nat // i ≤ u.length }) (fun i => fr 47 [.one (.sl false 3 (u.map fc)), .none, .none, .none, .one (.lit (.int .i64 (x : Int))), .one (.lit (.int .i64 (y : Int))), .one (.lit (.bool true)), .one (.sl true 3 ((outU u a b y i.1).map fcO)), .one (.lit (.int .i64 (i.1 : Int)))] [])
    (fun i => u.length - i.1) ⟨0, Nat.zero_le _⟩ ?_ ?_
  · refine le_fr ?_ ?_ ?_ ?_ <;> simp -implicitDefEqProofs only [go_sem, Nat.reduceLT, Nat.reduceEqDiff, Nat.reduceAdd, Nat.reduceLeDiff, Nat.reduceMul, Nat.reduceSub, Int.reduceEq, reduceCtorEq, reduceIte, *] <;> first | rfl | (rw [wrap64 (by omega) (by omega)]; rfl) | (simp; done) | exact ⟨rfl, rfl⟩ | (refine ⟨rfl, ?_⟩; rw [wrap64 (by omega) (by omega)]; rfl)
  rintro ⟨i, hi⟩
  simp only
  refine swp_deep ?_
  have hle := outU_len (u := u) (a := a) (b := b) (k := y) i
  have hstep : ∀ h : i < u.length, i ≠ y → outU u a b y (i + 1) = outU u a b y i ++ [renF a b u[i]] := fun h h2 => outU_step h h2
  have hhit : i = y → outU u a b y (i + 1) = outU u a b y i := outU_hit
  have hfin : ¬ i < u.length → outU u a b y i = outU u a b y u.length := fun h => by rw [show i = u.length by omega]
  generalize outU u a b y i = r at hstep hhit hle hfin
  have hA : (r.length + 1) * 48 ≤ 140737488355328 := by omega
  have hB : r.length + 1 ≤ 9223372036854775807 := by omega
  rcases Nat.lt_or_ge i u.length with hlt | hge
  case inr =>
    have hn : ¬ i < u.length := by omega
    repeat' (first
      | refine swp_seq ?_ | refine swp_region ?_ | refine swp_block ?_ | refine swp_skip ?_ | refine swp_ret ?_ | refine swp_exit ?_
      | (refine swp_cond (by simp -implicitDefEqProofs only [go_sem, Nat.reduceLT, Nat.reduceEqDiff, Nat.reduceAdd, Nat.reduceLeDiff, Nat.reduceMul, Nat.reduceSub, Int.reduceEq, reduceCtorEq, reduceIte, *] <;> rfl) (fun h => ?_) (fun h => ?_) <;> try simp only [Int.ofNat_lt, Int.ofNat_le, gdV, decide_eq_true_eq, decide_eq_false_iff_not, Bool.not_eq_true', Bool.not_eq_false', reduceCtorEq, Bool.true_eq_false, Bool.false_eq_true] at h)
      | simp -implicitDefEqProofs only [go_sem, Nat.reduceLT, Nat.reduceEqDiff, Nat.reduceAdd, Nat.reduceLeDiff, Nat.reduceMul, Nat.reduceSub, Int.reduceEq, reduceCtorEq, reduceIte, *]
      | (refine fork_intro (fun h => ?_) (fun h => ?_) <;> try simp only [Int.ofNat_lt, Int.ofNat_le, gdV, decide_eq_true_eq, decide_eq_false_iff_not, Bool.not_eq_true', Bool.not_eq_false', reduceCtorEq, Bool.true_eq_false, Bool.false_eq_true] at h))
    exact ⟨by simp, true, outU u a b y u.length, by first | (simp [oneSV]; done) | (rw [hfin hn]; simp [oneSV]), hres⟩
  have hsm := (smallU_at hU hlt).2
  have hpos := keepOk_pos hk hlt
  by_cases hiy : i = y
  · have hhit := hhit hiy
    have hne : ((i : Int) = (y : Int)) = True := by simp [hiy]
    subst hiy
    clear hstep
    repeat' (first
      | refine swp_seq ?_ | refine swp_region ?_ | refine swp_block ?_ | refine swp_skip ?_ | refine swp_ret ?_ | refine swp_exit ?_
      | (refine swp_cond (by simp -implicitDefEqProofs only [go_sem, Nat.reduceLT, Nat.reduceEqDiff, Nat.reduceAdd, Nat.reduceLeDiff, Nat.reduceMul, Nat.reduceSub, Int.reduceEq, reduceCtorEq, reduceIte, *] <;> rfl) (fun h => ?_) (fun h => ?_) <;> try simp only [Int.ofNat_lt, Int.ofNat_le, gdV, decide_eq_true_eq, decide_eq_false_iff_not, Bool.not_eq_true', Bool.not_eq_false', reduceCtorEq, Bool.true_eq_false, Bool.false_eq_true] at h)
      | simp -implicitDefEqProofs only [go_sem, Nat.reduceLT, Nat.reduceEqDiff, Nat.reduceAdd, Nat.reduceLeDiff, Nat.reduceMul, Nat.reduceSub, Int.reduceEq, reduceCtorEq, reduceIte, *]
      | (refine fork_intro (fun h => ?_) (fun h => ?_) <;> try simp only [Int.ofNat_lt, Int.ofNat_le, gdV, decide_eq_true_eq, decide_eq_false_iff_not, Bool.not_eq_true', Bool.not_eq_false', reduceCtorEq, Bool.true_eq_false, Bool.false_eq_true] at h))
    refine ⟨⟨i + 1, hlt⟩, by show u.length - (i + 1) < u.length - i; omega, ?_⟩
    clear hfin
    refine le_fr ?_ ?_ ?_ ?_ <;> simp -implicitDefEqProofs only [go_sem, Nat.reduceLT, Nat.reduceEqDiff, Nat.reduceAdd, Nat.reduceLeDiff, Nat.reduceMul, Nat.reduceSub, Int.reduceEq, reduceCtorEq, reduceIte, *] <;> first | rfl | (rw [wrap64 (by omega) (by omega)]; rfl) | (simp; done) | exact ⟨rfl, rfl⟩ | (refine ⟨rfl, ?_⟩; rw [wrap64 (by omega) (by omega)]; rfl)
  have hstep := hstep hlt hiy
  have hne : ¬ ((i : Int) = (y : Int)) := by omega
  repeat' (first
    | refine swp_seq ?_ | refine swp_region ?_ | refine swp_block ?_ | refine swp_skip ?_ | refine swp_ret ?_ | refine swp_exit ?_
    | (refine swp_cond (by simp -implicitDefEqProofs only [go_sem, Nat.reduceLT, Nat.reduceEqDiff, Nat.reduceAdd, Nat.reduceLeDiff, Nat.reduceMul, Nat.reduceSub, Int.reduceEq, reduceCtorEq, reduceIte, *] <;> rfl) (fun h => ?_) (fun h => ?_) <;> try simp only [Int.ofNat_lt, Int.ofNat_le, gdV, decide_eq_true_eq, decide_eq_false_iff_not, Bool.not_eq_true', Bool.not_eq_false', reduceCtorEq, Bool.true_eq_false, Bool.false_eq_true] at h)
    | simp -implicitDefEqProofs only [go_sem, Nat.reduceLT, Nat.reduceEqDiff, Nat.reduceAdd, Nat.reduceLeDiff, Nat.reduceMul, Nat.reduceSub, Int.reduceEq, reduceCtorEq, reduceIte, *]
    | (refine swp_draw (id := 9) [.s 28, .s 43, .s 44, .s 45, .s 7] mixed ?_; show DW _ _ _ _ 19 (Array.replicate 19 false) _ _; refine dw_takes [1, 2, 3, 4, 5, 6, 7, 8, 9, 10, 11, 12, 13, 14] (fuel := 5) rfl (by kernel_rfl) ?_; simp -implicitDefEqProofs only [go_sem, Nat.reduceLT, Nat.reduceEqDiff, Nat.reduceAdd, Nat.reduceLeDiff, Nat.reduceMul, Nat.reduceSub, Int.reduceEq, reduceCtorEq, reduceIte, *]; refine dw_twoA 0 15 (by kernel_rfl) ?T3 ?F3; (case' T3 => (simp -implicitDefEqProofs only [go_sem, Nat.reduceLT, Nat.reduceEqDiff, Nat.reduceAdd, Nat.reduceLeDiff, Nat.reduceMul, Nat.reduceSub, Int.reduceEq, reduceCtorEq, reduceIte, *]; refine ⟨by simp, ?_⟩; refine dw_nextA 15 (by kernel_rfl) ?_; simp -implicitDefEqProofs only [go_sem, Nat.reduceLT, Nat.reduceEqDiff, Nat.reduceAdd, Nat.reduceLeDiff, Nat.reduceMul, Nat.reduceSub, Int.reduceEq, reduceCtorEq, reduceIte, *]; (first | (refine call_view (f := .func 85) (by simp -implicitDefEqProofs only [go_sem, Nat.reduceLT, Nat.reduceEqDiff, Nat.reduceAdd, Nat.reduceLeDiff, Nat.reduceMul, Nat.reduceSub, Int.reduceEq, reduceCtorEq, reduceIte] <;> rfl) (by simp -implicitDefEqProofs only [go_sem, Nat.reduceLT, Nat.reduceEqDiff, Nat.reduceAdd, Nat.reduceLeDiff, Nat.reduceMul, Nat.reduceSub, Int.reduceEq, reduceCtorEq, reduceIte] <;> rfl) (by simp -implicitDefEqProofs only [go_sem, Nat.reduceLT, Nat.reduceEqDiff, Nat.reduceAdd, Nat.reduceLeDiff, Nat.reduceMul, Nat.reduceSub, Int.reduceEq, reduceCtorEq, reduceIte]) (by first | trivial | simp) he85 (fun E => c46 _ _ _ _ _ hsm hpos E) (fun sv E' hQ => ?_); subst hQ; refine ⟨by simp [SV.Fresh, -fresh_sl, -List.map_map, frs], ?_⟩)); (try refine ⟨by simp [SV.Fresh], ?_⟩); refine dw_nextA 16 (by kernel_rfl) ?_; simp -implicitDefEqProofs only [go_sem, Nat.reduceLT, Nat.reduceEqDiff, Nat.reduceAdd, Nat.reduceLeDiff, Nat.reduceMul, Nat.reduceSub, Int.reduceEq, reduceCtorEq, reduceIte, *]; refine ⟨by simp, ?_⟩; refine dw_nextA 17 (by kernel_rfl) ?_; simp -implicitDefEqProofs only [go_sem, Nat.reduceLT, Nat.reduceEqDiff, Nat.reduceAdd, Nat.reduceLeDiff, Nat.reduceMul, Nat.reduceSub, Int.reduceEq, reduceCtorEq, reduceIte, *]; refine ⟨by simp, ?_⟩; refine dw_nextA 18 (by kernel_rfl) ?_; simp -implicitDefEqProofs only [go_sem, Nat.reduceLT, Nat.reduceEqDiff, Nat.reduceAdd, Nat.reduceLeDiff, Nat.reduceMul, Nat.reduceSub, Int.reduceEq, reduceCtorEq, reduceIte, *]; refine ⟨by simp, ?_⟩; refine dw_done (by kernel_rfl) ?_)); (case' F3 => (simp -implicitDefEqProofs only [go_sem, Nat.reduceLT, Nat.reduceEqDiff, Nat.reduceAdd, Nat.reduceLeDiff, Nat.reduceMul, Nat.reduceSub, Int.reduceEq, reduceCtorEq, reduceIte, *]; (first | (refine call_view (f := .func 85) (by simp -implicitDefEqProofs only [go_sem, Nat.reduceLT, Nat.reduceEqDiff, Nat.reduceAdd, Nat.reduceLeDiff, Nat.reduceMul, Nat.reduceSub, Int.reduceEq, reduceCtorEq, reduceIte] <;> rfl) (by simp -implicitDefEqProofs only [go_sem, Nat.reduceLT, Nat.reduceEqDiff, Nat.reduceAdd, Nat.reduceLeDiff, Nat.reduceMul, Nat.reduceSub, Int.reduceEq, reduceCtorEq, reduceIte] <;> rfl) (by simp -implicitDefEqProofs only [go_sem, Nat.reduceLT, Nat.reduceEqDiff, Nat.reduceAdd, Nat.reduceLeDiff, Nat.reduceMul, Nat.reduceSub, Int.reduceEq, reduceCtorEq, reduceIte]) (by first | trivial | simp) he85 (fun E => c46 _ _ _ _ _ hsm hpos E) (fun sv E' hQ => ?_); subst hQ; refine ⟨by simp [SV.Fresh, -fresh_sl, -List.map_map, frs], ?_⟩)); (try refine ⟨by simp [SV.Fresh], ?_⟩); refine dw_twoA 0 16 (by kernel_rfl) ?T4 ?F4; (case' T4 => (simp -implicitDefEqProofs only [go_sem, Nat.reduceLT, Nat.reduceEqDiff, Nat.reduceAdd, Nat.reduceLeDiff, Nat.reduceMul, Nat.reduceSub, Int.reduceEq, reduceCtorEq, reduceIte, *]; refine ⟨by simp, ?_⟩; refine dw_nextA 16 (by kernel_rfl) ?_; simp -implicitDefEqProofs only [go_sem, Nat.reduceLT, Nat.reduceEqDiff, Nat.reduceAdd, Nat.reduceLeDiff, Nat.reduceMul, Nat.reduceSub, Int.reduceEq, reduceCtorEq, reduceIte, *]; refine ⟨by simp, ?_⟩; refine dw_nextA 17 (by kernel_rfl) ?_; simp -implicitDefEqProofs only [go_sem, Nat.reduceLT, Nat.reduceEqDiff, Nat.reduceAdd, Nat.reduceLeDiff, Nat.reduceMul, Nat.reduceSub, Int.reduceEq, reduceCtorEq, reduceIte, *]; refine ⟨by simp, ?_⟩; refine dw_nextA 18 (by kernel_rfl) ?_; simp -implicitDefEqProofs only [go_sem, Nat.reduceLT, Nat.reduceEqDiff, Nat.reduceAdd, Nat.reduceLeDiff, Nat.reduceMul, Nat.reduceSub, Int.reduceEq, reduceCtorEq, reduceIte, *]; refine ⟨by simp, ?_⟩; refine dw_done (by kernel_rfl) ?_)); (case' F4 => (simp -implicitDefEqProofs only [go_sem, Nat.reduceLT, Nat.reduceEqDiff, Nat.reduceAdd, Nat.reduceLeDiff, Nat.reduceMul, Nat.reduceSub, Int.reduceEq, reduceCtorEq, reduceIte, *]; refine ⟨by simp, ?_⟩; refine dw_nextA 0 (by kernel_rfl) ?_; simp -implicitDefEqProofs only [go_sem, Nat.reduceLT, Nat.reduceEqDiff, Nat.reduceAdd, Nat.reduceLeDiff, Nat.reduceMul, Nat.reduceSub, Int.reduceEq, reduceCtorEq, reduceIte, *]; refine ⟨by simp, ?_⟩; refine dw_nextA 17 (by kernel_rfl) ?_; simp -implicitDefEqProofs only [go_sem, Nat.reduceLT, Nat.reduceEqDiff, Nat.reduceAdd, Nat.reduceLeDiff, Nat.reduceMul, Nat.reduceSub, Int.reduceEq, reduceCtorEq, reduceIte, *]; refine ⟨by simp, ?_⟩; refine dw_nextA 18 (by kernel_rfl) ?_; simp -implicitDefEqProofs only [go_sem, Nat.reduceLT, Nat.reduceEqDiff, Nat.reduceAdd, Nat.reduceLeDiff, Nat.reduceMul, Nat.reduceSub, Int.reduceEq, reduceCtorEq, reduceIte, *]; refine ⟨by simp, ?_⟩; refine dw_done (by kernel_rfl) ?_)))))
    | (refine fork_intro (fun h => ?_) (fun h => ?_) <;> try simp only [Int.ofNat_lt, Int.ofNat_le, gdV, decide_eq_true_eq, decide_eq_false_iff_not, Bool.not_eq_true', Bool.not_eq_false', reduceCtorEq, Bool.true_eq_false, Bool.false_eq_true] at h))
  all_goals
    refine ⟨⟨i + 1, hlt⟩, by show u.length - (i + 1) < u.length - i; omega, ?_⟩
    rw [hstep]
    have e2 : r.map fcO ++ [[.lit (.string u[i].nm), .lit (.bool u[i].wk), .sl true 3 ((u[i].bd.map (ren a b)).map ic)]] = (r ++ [renF a b u[i]]).map fcO := by simp [fcO, renF]
    clear hstep hhit hfin
    refine le_fr ?_ ?_ ?_ ?_ <;> simp -implicitDefEqProofs only [go_sem, Nat.reduceLT, Nat.reduceEqDiff, Nat.reduceAdd, Nat.reduceLeDiff, Nat.reduceMul, Nat.reduceSub, Int.reduceEq, reduceCtorEq, reduceIte, *] <;> first | rfl | (rw [wrap64 (by omega) (by omega)]; rfl) | (simp; done) | exact ⟨rfl, rfl⟩ | (refine ⟨rfl, ?_⟩; rw [wrap64 (by omega) (by omega)]; rfl)

theorem smallU_one {u r : List F} {b : Bool} (hU : smallU u) (h : OneS u b r) : smallU r := by
  obtain ⟨i, j, _, rfl⟩ := h
  split
  · exact smallU_once hU _ _
  · exact hU
theorem c74O (u : List F) (hU : smallU u) (E) : AC Try.prog 52 [.one (.sl false 3 (u.map fcO))] E (fun sv _ => sv = .one (.sl true 3 (u.map fcO))) := AC.view1 1 (c74 u hU E) roO
theorem c32 (u : List F) (hU : smallU u) (E) : AC Try.prog 23 [.one (.sl false 3 (u.map fc))] E (fun sv _ => ∃ r, sv = .one (.sl true 3 ((r).map fcO)) ∧ FoldS u r) := by
  have hu := hU.1
  unfold FoldS
  cases hk : keepOk u
  · refine AC_of_swp (n := 16) (rs := [.tmp 2]) hf23 rfl rfl rfl rfl rfl ?_
    repeat' (first
      | refine swp_seq ?_ | refine swp_region ?_ | refine swp_block ?_ | refine swp_skip ?_ | refine swp_ret ?_ | refine swp_exit ?_
      | (refine swp_cond (by simp -implicitDefEqProofs only [go_sem, Nat.reduceLT, Nat.reduceEqDiff, Nat.reduceAdd, Nat.reduceLeDiff, Nat.reduceMul, Nat.reduceSub, Int.reduceEq, reduceCtorEq, reduceIte, *] <;> rfl) (fun h => ?_) (fun h => ?_) <;> try simp only [Int.ofNat_lt, Int.ofNat_le, gdV, decide_eq_true_eq, decide_eq_false_iff_not, Bool.not_eq_true', Bool.not_eq_false', reduceCtorEq, Bool.true_eq_false, Bool.false_eq_true] at h)
      | simp -implicitDefEqProofs only [go_sem, Nat.reduceLT, Nat.reduceEqDiff, Nat.reduceAdd, Nat.reduceLeDiff, Nat.reduceMul, Nat.reduceSub, Int.reduceEq, reduceCtorEq, reduceIte, *]
      | (refine call_view (f := .func 12) (by simp -implicitDefEqProofs only [go_sem, Nat.reduceLT, Nat.reduceEqDiff, Nat.reduceAdd, Nat.reduceLeDiff, Nat.reduceMul, Nat.reduceSub, Int.reduceEq, reduceCtorEq, reduceIte] <;> rfl) (by simp -implicitDefEqProofs only [go_sem, Nat.reduceLT, Nat.reduceEqDiff, Nat.reduceAdd, Nat.reduceLeDiff, Nat.reduceMul, Nat.reduceSub, Int.reduceEq, reduceCtorEq, reduceIte] <;> rfl) (by simp -implicitDefEqProofs only [go_sem, Nat.reduceLT, Nat.reduceEqDiff, Nat.reduceAdd, Nat.reduceLeDiff, Nat.reduceMul, Nat.reduceSub, Int.reduceEq, reduceCtorEq, reduceIte]) (by first | trivial | simp) he12 (fun E => c59 _ hU E) (fun sv E' hQ => ?_); subst hQ)
      | (refine fork_intro (fun h => ?_) (fun h => ?_) <;> try simp only [Int.ofNat_lt, Int.ofNat_le, gdV, decide_eq_true_eq, decide_eq_false_iff_not, Bool.not_eq_true', Bool.not_eq_false', reduceCtorEq, Bool.true_eq_false, Bool.false_eq_true] at h))
    all_goals exact ⟨by simp, [], rfl, by simp⟩
  refine AC_of_swp (n := 16) (rs := [.tmp 2]) hf23 rfl rfl rfl rfl rfl ?_
  repeat' (first
    | refine swp_seq ?_ | refine swp_region ?_ | refine swp_block ?_ | refine swp_skip ?_ | refine swp_ret ?_ | refine swp_exit ?_
    | (refine swp_cond (by simp -implicitDefEqProofs only [go_sem, Nat.reduceLT, Nat.reduceEqDiff, Nat.reduceAdd, Nat.reduceLeDiff, Nat.reduceMul, Nat.reduceSub, Int.reduceEq, reduceCtorEq, reduceIte, *] <;> rfl) (fun h => ?_) (fun h => ?_) <;> try simp only [Int.ofNat_lt, Int.ofNat_le, gdV, decide_eq_true_eq, decide_eq_false_iff_not, Bool.not_eq_true', Bool.not_eq_false', reduceCtorEq, Bool.true_eq_false, Bool.false_eq_true] at h)
    | simp -implicitDefEqProofs only [go_sem, Nat.reduceLT, Nat.reduceEqDiff, Nat.reduceAdd, Nat.reduceLeDiff, Nat.reduceMul, Nat.reduceSub, Int.reduceEq, reduceCtorEq, reduceIte, *]
    | (refine call_view (f := .func 12) (by simp -implicitDefEqProofs only [go_sem, Nat.reduceLT, Nat.reduceEqDiff, Nat.reduceAdd, Nat.reduceLeDiff, Nat.reduceMul, Nat.reduceSub, Int.reduceEq, reduceCtorEq, reduceIte] <;> rfl) (by simp -implicitDefEqProofs only [go_sem, Nat.reduceLT, Nat.reduceEqDiff, Nat.reduceAdd, Nat.reduceLeDiff, Nat.reduceMul, Nat.reduceSub, Int.reduceEq, reduceCtorEq, reduceIte] <;> rfl) (by simp -implicitDefEqProofs only [go_sem, Nat.reduceLT, Nat.reduceEqDiff, Nat.reduceAdd, Nat.reduceLeDiff, Nat.reduceMul, Nat.reduceSub, Int.reduceEq, reduceCtorEq, reduceIte]) (by first | trivial | simp) he12 (fun E => c59 _ hU E) (fun sv E' hQ => ?_); subst hQ)
    | (refine call_free (f := .func 51) (by simp -implicitDefEqProofs only [go_sem, Nat.reduceLT, Nat.reduceEqDiff, Nat.reduceAdd, Nat.reduceLeDiff, Nat.reduceMul, Nat.reduceSub, Int.reduceEq, reduceCtorEq, reduceIte] <;> rfl) (by simp -implicitDefEqProofs only [go_sem, Nat.reduceLT, Nat.reduceEqDiff, Nat.reduceAdd, Nat.reduceLeDiff, Nat.reduceMul, Nat.reduceSub, Int.reduceEq, reduceCtorEq, reduceIte] <;> rfl) (by simp -implicitDefEqProofs only [go_sem, Nat.reduceLT, Nat.reduceEqDiff, Nat.reduceAdd, Nat.reduceLeDiff, Nat.reduceMul, Nat.reduceSub, Int.reduceEq, reduceCtorEq, reduceIte]) (by first | trivial | simp) he51 (fun E => c73 _ hU hk E) (fun sv E' hQ => ?_); obtain ⟨b1, r, hQ, hO⟩ := hQ; subst hQ; have hr := smallU_one hU hO; cases b1 <;> simp only [oneSV, if_true, if_false, Bool.false_eq_true, reduceIte])
    | (refine fork_intro (fun h => ?_) (fun h => ?_) <;> try simp only [Int.ofNat_lt, Int.ofNat_le, gdV, decide_eq_true_eq, decide_eq_false_iff_not, Bool.not_eq_true', Bool.not_eq_false', reduceCtorEq, Bool.true_eq_false, Bool.false_eq_true] at h))
  · repeat' (first
      | refine swp_seq ?_ | refine swp_region ?_ | refine swp_block ?_ | refine swp_skip ?_ | refine swp_ret ?_ | refine swp_exit ?_
      | (refine swp_cond (by simp -implicitDefEqProofs only [go_sem, Nat.reduceLT, Nat.reduceEqDiff, Nat.reduceAdd, Nat.reduceLeDiff, Nat.reduceMul, Nat.reduceSub, Int.reduceEq, reduceCtorEq, reduceIte, *] <;> rfl) (fun h => ?_) (fun h => ?_) <;> try simp only [Int.ofNat_lt, Int.ofNat_le, gdV, decide_eq_true_eq, decide_eq_false_iff_not, Bool.not_eq_true', Bool.not_eq_false', reduceCtorEq, Bool.true_eq_false, Bool.false_eq_true] at h)
      | simp -implicitDefEqProofs only [go_sem, Nat.reduceLT, Nat.reduceEqDiff, Nat.reduceAdd, Nat.reduceLeDiff, Nat.reduceMul, Nat.reduceSub, Int.reduceEq, reduceCtorEq, reduceIte, *]
      | (refine call_view (f := .func 52) (by simp -implicitDefEqProofs only [go_sem, Nat.reduceLT, Nat.reduceEqDiff, Nat.reduceAdd, Nat.reduceLeDiff, Nat.reduceMul, Nat.reduceSub, Int.reduceEq, reduceCtorEq, reduceIte] <;> rfl) (by simp -implicitDefEqProofs only [go_sem, Nat.reduceLT, Nat.reduceEqDiff, Nat.reduceAdd, Nat.reduceLeDiff, Nat.reduceMul, Nat.reduceSub, Int.reduceEq, reduceCtorEq, reduceIte] <;> rfl) (by simp -implicitDefEqProofs only [go_sem, Nat.reduceLT, Nat.reduceEqDiff, Nat.reduceAdd, Nat.reduceLeDiff, Nat.reduceMul, Nat.reduceSub, Int.reduceEq, reduceCtorEq, reduceIte]) (by first | trivial | simp) he52 (fun E => c74 _ hr E) (fun sv E' hQ => ?_); subst hQ; refine ⟨by simp [SV.Fresh, -fresh_sl, -List.map_map, frO], ?_⟩)
      | (refine fork_intro (fun h => ?_) (fun h => ?_) <;> try simp only [Int.ofNat_lt, Int.ofNat_le, gdV, decide_eq_true_eq, decide_eq_false_iff_not, Bool.not_eq_true', Bool.not_eq_false', reduceCtorEq, Bool.true_eq_false, Bool.false_eq_true] at h))
    exact ⟨by simp, r, rfl, _, hO⟩
  · repeat' (first
      | refine swp_seq ?_ | refine swp_region ?_ | refine swp_block ?_ | refine swp_skip ?_ | refine swp_ret ?_ | refine swp_exit ?_
      | (refine swp_cond (by simp -implicitDefEqProofs only [go_sem, Nat.reduceLT, Nat.reduceEqDiff, Nat.reduceAdd, Nat.reduceLeDiff, Nat.reduceMul, Nat.reduceSub, Int.reduceEq, reduceCtorEq, reduceIte, *] <;> rfl) (fun h => ?_) (fun h => ?_) <;> try simp only [Int.ofNat_lt, Int.ofNat_le, gdV, decide_eq_true_eq, decide_eq_false_iff_not, Bool.not_eq_true', Bool.not_eq_false', reduceCtorEq, Bool.true_eq_false, Bool.false_eq_true] at h)
      | simp -implicitDefEqProofs only [go_sem, Nat.reduceLT, Nat.reduceEqDiff, Nat.reduceAdd, Nat.reduceLeDiff, Nat.reduceMul, Nat.reduceSub, Int.reduceEq, reduceCtorEq, reduceIte, *]
      | (refine call_view (f := .func 52) (by simp -implicitDefEqProofs only [go_sem, Nat.reduceLT, Nat.reduceEqDiff, Nat.reduceAdd, Nat.reduceLeDiff, Nat.reduceMul, Nat.reduceSub, Int.reduceEq, reduceCtorEq, reduceIte] <;> rfl) (by simp -implicitDefEqProofs only [go_sem, Nat.reduceLT, Nat.reduceEqDiff, Nat.reduceAdd, Nat.reduceLeDiff, Nat.reduceMul, Nat.reduceSub, Int.reduceEq, reduceCtorEq, reduceIte] <;> rfl) (by simp -implicitDefEqProofs only [go_sem, Nat.reduceLT, Nat.reduceEqDiff, Nat.reduceAdd, Nat.reduceLeDiff, Nat.reduceMul, Nat.reduceSub, Int.reduceEq, reduceCtorEq, reduceIte]) (by first | trivial | simp) he52 (fun E => c74O _ hr E) (fun sv E' hQ => ?_); subst hQ; refine ⟨by simp [SV.Fresh, -fresh_sl, -List.map_map, frO], ?_⟩)
      | (refine fork_intro (fun h => ?_) (fun h => ?_) <;> try simp only [Int.ofNat_lt, Int.ofNat_le, gdV, decide_eq_true_eq, decide_eq_false_iff_not, Bool.not_eq_true', Bool.not_eq_false', reduceCtorEq, Bool.true_eq_false, Bool.false_eq_true] at h))
    exact ⟨by simp, r, rfl, _, hO⟩
end Go.Proofs.Ytlphbpjejdhaoaa
