/- Layouts: which are well formed, and what an address is. No condition. -/
import Derived.Test.YtookjkiagdkajaaE1
open Go Go.AI Go.Proofs
set_option maxRecDepth 100000
set_option maxHeartbeats 4000000
set_option linter.unusedSimpArgs false
set_option linter.unusedVariables false
namespace Go.Proofs.Ytookjkiagdkajaa
attribute [local irreducible] awpOps opA callA Then Fork SWP

attribute [go_sem] builtinS
attribute [go_sem] St.claimsT St.claimT List.append_nil List.nil_append
def lenAt (u : List F) (t : List (List ByteArray)) (i : Nat) : Nat := ((u[i]?).map (·.bd.length)).getD 0 + ((t[i]?).map (·.length)).getD 0
def sumB (u : List F) (t : List (List ByteArray)) : Nat → Nat
  | 0 => 0
  | i + 1 => sumB u t i + lenAt u t i
theorem lenAt_eq {u : List F} {t : List (List ByteArray)} {i : Nat} (h : i < u.length) (h2 : i < t.length) : lenAt u t i = u[i].bd.length + t[i].length := by simp [lenAt, h, h2]
def smallT (t : List (List ByteArray)) : Prop := t.length ≤ 1048576 ∧ ∀ ss ∈ t, ss.length ≤ 1048576
theorem lenAt_le {u : List F} {t : List (List ByteArray)} (hU : smallU u) (hT : smallT t) (i : Nat) : lenAt u t i ≤ 2097152 := by
  unfold lenAt
  have h1 : ((u[i]?).map (·.bd.length)).getD 0 ≤ 1048576 := by
    cases h : u[i]? with
    | none => simp
    | some f => have := (hU.2 f (List.mem_of_getElem? h)).2.1; simpa using this
  have h2 : ((t[i]?).map (·.length)).getD 0 ≤ 1048576 := by
    cases h : t[i]? with
    | none => simp
    | some f => have := hT.2 f (List.mem_of_getElem? h); simpa using this
  omega
theorem sumB_le {u : List F} {t : List (List ByteArray)} (hU : smallU u) (hT : smallT t) : ∀ i, sumB u t i ≤ i * 2097152
  | 0 => by simp [sumB]
  | i + 1 => by have := sumB_le hU hT i; have := lenAt_le hU hT i; simp only [sumB]; omega

/-- Name number k of a table is found, and no name before it is the same. -/
def okS (u : List F) (ss : List ByteArray) (k : Nat) : Prop := ∀ h : k < ss.length, ¬ findN u ss[k] < 0 ∧ ∀ k' (h' : k' < ss.length), k' < k → ss[k'] ≠ ss[k]
def okRow (u : List F) (a : List Int) (t : List (List ByteArray)) (i : Nat) : Prop := ∀ (h : i < a.length) (h' : i < t.length), a[i] = (sumB u t i : Int) ∧ ∀ k, okS u t[i] k
def FormP (u : List F) (a : List Int) (t : List (List ByteArray)) : Prop := keepOk u = true ∧ a.length = u.length ∧ t.length = u.length ∧ ∀ i, i < u.length → okRow u a t i

theorem c65 (u : List F) (a : List Int) (t : List (List ByteArray)) (hU : smallU u) (hT : smallT t) (E) : AC Try.prog 65 [.one (.sl false 3 (u.map fc)), .agg [.sl false 1 (a.map irow), .sl false 1 (t.map ssrow)]] E
    (fun sv _ => ∃ b : Bool, sv = .one (.lit (.bool b)) ∧ (b = true ↔ FormP u a t)) := by
  have hu := hU.1
  refine AC_of_swp (n := 99) (rs := [.tmp 4]) hf65 rfl rfl rfl rfl rfl ?_
  repeat' (first
    | refine swp_seq ?_ | refine swp_region ?_ | refine swp_block ?_ | refine swp_skip ?_ | refine swp_ret ?_ | refine swp_exit ?_
    | (refine swp_cond (by simp -implicitDefEqProofs only [go_sem, Nat.reduceLT, Nat.reduceEqDiff, Nat.reduceAdd, Nat.reduceLeDiff, Nat.reduceMul, Nat.reduceSub, Int.reduceEq, reduceCtorEq, reduceIte, *] <;> rfl) (fun h => ?_) (fun h => ?_) <;> try simp only [Int.ofNat_lt, Int.ofNat_le, gdV, decide_eq_true_eq, decide_eq_false_iff_not, Bool.not_eq_true', Bool.not_eq_false', reduceCtorEq, Bool.true_eq_false, Bool.false_eq_true] at h)
    | simp -implicitDefEqProofs only [go_sem, Nat.reduceLT, Nat.reduceEqDiff, Nat.reduceAdd, Nat.reduceLeDiff, Nat.reduceMul, Nat.reduceSub, Int.reduceEq, reduceCtorEq, reduceIte, *]
    | (refine call_view (f := .func 59) (by simp -implicitDefEqProofs only [go_sem, Nat.reduceLT, Nat.reduceEqDiff, Nat.reduceAdd, Nat.reduceLeDiff, Nat.reduceMul, Nat.reduceSub, Int.reduceEq, reduceCtorEq, reduceIte] <;> rfl) (by simp -implicitDefEqProofs only [go_sem, Nat.reduceLT, Nat.reduceEqDiff, Nat.reduceAdd, Nat.reduceLeDiff, Nat.reduceMul, Nat.reduceSub, Int.reduceEq, reduceCtorEq, reduceIte] <;> rfl) (by simp -implicitDefEqProofs only [go_sem, Nat.reduceLT, Nat.reduceEqDiff, Nat.reduceAdd, Nat.reduceLeDiff, Nat.reduceMul, Nat.reduceSub, Int.reduceEq, reduceCtorEq, reduceIte]) (by first | trivial | simp) he59 (fun E => c59 _ hU E) (fun sv E' hQ => ?_); subst hQ)
    | (refine fork_intro (fun h => ?_) (fun h => ?_) <;> try simp only [Int.ofNat_lt, Int.ofNat_le, gdV, decide_eq_true_eq, decide_eq_false_iff_not, Bool.not_eq_true', Bool.not_eq_false', reduceCtorEq, Bool.true_eq_false, Bool.false_eq_true] at h))
  all_goals first | (refine ⟨by simp, false, rfl, ⟨fun h => (by cases h), fun hF => ?_⟩⟩; obtain ⟨f1, f2, f3, _⟩ := hF; first | omega | (simp_all; done)) | skip
  have hk : keepOk u = true := by assumption
  have hal : a.length = u.length := by omega
  have htl : t.length = u.length := by omega
  refine swp_loop (ι := { i : Nat // i ≤ u.length ∧ ∀ j, j < i → okRow u a t j }) (fun i => fr 99 [.one (.sl false 3 (u.map fc)), .none, .none, .one (.addr (.v 3) [] 0 0 0), .one (.lit (.bool false)), .one (.lit (.int .i64 (sumB u t i.1 : Int))), .one (.lit (.int .i64 (i.1 : Int)))] [(3, true, [.sl false 1 (a.map irow), .sl false 1 (t.map ssrow)])])
    (fun i => u.length - i.1) ⟨0, Nat.zero_le _, fun j hj => by omega⟩ ?_ ?_
  · refine le_fr ?_ ?_ ?_ ?_ <;> simp -implicitDefEqProofs only [go_sem, Nat.reduceLT, Nat.reduceEqDiff, Nat.reduceAdd, Nat.reduceLeDiff, Nat.reduceMul, Nat.reduceSub, Int.reduceEq, reduceCtorEq, reduceIte, *] <;> first | rfl | (rw [wrap64 (by omega) (by omega)]; rfl) | (simp; done) | exact ⟨rfl, rfl⟩ | (refine ⟨rfl, ?_⟩; rw [wrap64 (by omega) (by omega)]; rfl)
  rintro ⟨i, hi, hlow⟩
  rcases Nat.lt_or_ge i u.length with hlt | hge
  case inr =>
    have hn : ¬ i < u.length := by omega
    repeat' (first
      | refine swp_seq ?_ | refine swp_region ?_ | refine swp_block ?_ | refine swp_skip ?_ | refine swp_ret ?_ | refine swp_exit ?_
      | (refine swp_cond (by simp -implicitDefEqProofs only [go_sem, Nat.reduceLT, Nat.reduceEqDiff, Nat.reduceAdd, Nat.reduceLeDiff, Nat.reduceMul, Nat.reduceSub, Int.reduceEq, reduceCtorEq, reduceIte, *] <;> rfl) (fun h => ?_) (fun h => ?_) <;> try simp only [Int.ofNat_lt, Int.ofNat_le, gdV, decide_eq_true_eq, decide_eq_false_iff_not, Bool.not_eq_true', Bool.not_eq_false', reduceCtorEq, Bool.true_eq_false, Bool.false_eq_true] at h)
      | simp -implicitDefEqProofs only [go_sem, Nat.reduceLT, Nat.reduceEqDiff, Nat.reduceAdd, Nat.reduceLeDiff, Nat.reduceMul, Nat.reduceSub, Int.reduceEq, reduceCtorEq, reduceIte, *]
      | (refine fork_intro (fun h => ?_) (fun h => ?_) <;> try simp only [Int.ofNat_lt, Int.ofNat_le, gdV, decide_eq_true_eq, decide_eq_false_iff_not, Bool.not_eq_true', Bool.not_eq_false', reduceCtorEq, Bool.true_eq_false, Bool.false_eq_true] at h))
    exact ⟨by simp, true, rfl, ⟨fun _ => ⟨hk, hal, htl, fun j hj => hlow j (by omega)⟩, fun _ => rfl⟩⟩
  have hla : i < a.length := by omega
  have hlt2 : i < t.length := by omega
  have hsb := sumB_le hU hT i
  have hsb1 := sumB_le hU hT (i + 1)
  have hss : t[i].length ≤ 1048576 := hT.2 _ (List.getElem_mem hlt2)
  have hbb := (smallU_at hU hlt).2.1
  have hsum : sumB u t (i + 1) = sumB u t i + (u[i].bd.length + t[i].length) := by rw [sumB, lenAt_eq hlt hlt2]
  have hww : IntKind.i64.wrap (IntKind.i64.wrap ((sumB u t i : Int) + u[i].bd.length) + t[i].length) = ((sumB u t i + (u[i].bd.length + t[i].length) : Nat) : Int) := by
    have hw1 : IntKind.i64.wrap ((sumB u t i : Int) + u[i].bd.length) = (sumB u t i : Int) + u[i].bd.length := wrap64 (by omega) (by omega)
    rw [hw1, wrap64 (by omega) (by omega)]; omega
  have hmiss : a[i] ≠ (sumB u t i : Int) → ¬ FormP u a t := fun h hF => h (hF.2.2.2 i hlt hla hlt2).1
  have hmissS : ∀ k, ¬ okS u t[i] k → ¬ FormP u a t := fun k h hF => h ((hF.2.2.2 i hlt hla hlt2).2 k)
  have hdone : a[i] = (sumB u t i : Int) → (∀ k, okS u t[i] k) → ∀ j, j < i + 1 → okRow u a t j := fun h1 h2 j hj => by
    rcases Nat.lt_or_ge j i with h' | h'
    · exact hlow j h'
    · have : j = i := by omega
      subst this; exact fun _ _ => ⟨h1, h2⟩
  simp only
  clear hlow
  generalize hB : sumB u t i = base at *
  repeat' (first
    | refine swp_seq ?_ | refine swp_region ?_ | refine swp_block ?_ | refine swp_skip ?_ | refine swp_ret ?_ | refine swp_exit ?_
    | (refine swp_cond (by simp -implicitDefEqProofs only [go_sem, Nat.reduceLT, Nat.reduceEqDiff, Nat.reduceAdd, Nat.reduceLeDiff, Nat.reduceMul, Nat.reduceSub, Int.reduceEq, reduceCtorEq, reduceIte, *] <;> rfl) (fun h => ?_) (fun h => ?_) <;> try simp only [Int.ofNat_lt, Int.ofNat_le, gdV, decide_eq_true_eq, decide_eq_false_iff_not, Bool.not_eq_true', Bool.not_eq_false', reduceCtorEq, Bool.true_eq_false, Bool.false_eq_true] at h)
    | simp -implicitDefEqProofs only [go_sem, Nat.reduceLT, Nat.reduceEqDiff, Nat.reduceAdd, Nat.reduceLeDiff, Nat.reduceMul, Nat.reduceSub, Int.reduceEq, reduceCtorEq, reduceIte, *]
    | (refine fork_intro (fun h => ?_) (fun h => ?_) <;> try simp only [Int.ofNat_lt, Int.ofNat_le, gdV, decide_eq_true_eq, decide_eq_false_iff_not, Bool.not_eq_true', Bool.not_eq_false', reduceCtorEq, Bool.true_eq_false, Bool.false_eq_true] at h))
  · exact ⟨by simp, false, rfl, ⟨fun h => (by cases h), fun hF => absurd hF (hmiss h)⟩⟩
  have hai : a[i] = (base : Int) := by omega
  refine swp_loop (ι := { k : Nat // k ≤ t[i].length ∧ ∀ k', k' < k → okS u t[i] k' }) (fun k => fr 99 [.one (.sl false 3 (u.map fc)), .none, .none, .one (.addr (.v 3) [] 0 0 0), .one (.lit (.bool false)), .one (.lit (.int .i64 (base : Int))), .one (.lit (.int .i64 (i : Int))), .one (.lit (.int .i64 (k.1 : Int)))] [(3, true, [.sl false 1 (a.map irow), .sl false 1 (t.map ssrow)])])
    (fun k => t[i].length - k.1) ⟨0, Nat.zero_le _, fun j hj => by omega⟩ ?_ ?_
  · refine le_fr ?_ ?_ ?_ ?_ <;> simp -implicitDefEqProofs only [go_sem, Nat.reduceLT, Nat.reduceEqDiff, Nat.reduceAdd, Nat.reduceLeDiff, Nat.reduceMul, Nat.reduceSub, Int.reduceEq, reduceCtorEq, reduceIte, *] <;> first | rfl | (rw [wrap64 (by omega) (by omega)]; rfl) | (simp; done) | exact ⟨rfl, rfl⟩ | (refine ⟨rfl, ?_⟩; rw [wrap64 (by omega) (by omega)]; rfl)
  rintro ⟨k, hk1, hlowk⟩
  rcases Nat.lt_or_ge k t[i].length with hkt | hkt
  case inr =>
    have hn : ¬ k < t[i].length := by omega
    have hok : ∀ k, okS u t[i] k := fun k' => by
      rcases Nat.lt_or_ge k' k with h' | h'
      · exact hlowk k' h'
      · exact fun h => absurd h (by omega)
    repeat' (first
      | refine swp_seq ?_ | refine swp_region ?_ | refine swp_block ?_ | refine swp_skip ?_ | refine swp_ret ?_ | refine swp_exit ?_
      | (refine swp_cond (by simp -implicitDefEqProofs only [go_sem, Nat.reduceLT, Nat.reduceEqDiff, Nat.reduceAdd, Nat.reduceLeDiff, Nat.reduceMul, Nat.reduceSub, Int.reduceEq, reduceCtorEq, reduceIte, *] <;> rfl) (fun h => ?_) (fun h => ?_) <;> try simp only [Int.ofNat_lt, Int.ofNat_le, gdV, decide_eq_true_eq, decide_eq_false_iff_not, Bool.not_eq_true', Bool.not_eq_false', reduceCtorEq, Bool.true_eq_false, Bool.false_eq_true] at h)
      | simp -implicitDefEqProofs only [go_sem, Nat.reduceLT, Nat.reduceEqDiff, Nat.reduceAdd, Nat.reduceLeDiff, Nat.reduceMul, Nat.reduceSub, Int.reduceEq, reduceCtorEq, reduceIte, *]
      | (refine swp_draw (id := 19) [.s 84, .s 91, .s 98, .s 5] mixed ?_; show DW _ _ _ _ 16 (Array.replicate 16 false) _ _; refine dw_takes [1, 2, 3, 4, 5, 6, 8, 9, 10, 11, 12, 13] (fuel := 4) rfl (by kernel_rfl) ?_; simp -implicitDefEqProofs only [go_sem, Nat.reduceLT, Nat.reduceEqDiff, Nat.reduceAdd, Nat.reduceLeDiff, Nat.reduceMul, Nat.reduceSub, Int.reduceEq, reduceCtorEq, reduceIte, *]; refine dw_nextA 0 (by kernel_rfl) ?_; simp -implicitDefEqProofs only [go_sem, Nat.reduceLT, Nat.reduceEqDiff, Nat.reduceAdd, Nat.reduceLeDiff, Nat.reduceMul, Nat.reduceSub, Int.reduceEq, reduceCtorEq, reduceIte, *]; refine ⟨by simp, ?_⟩; refine dw_nextA 7 (by kernel_rfl) ?_; simp -implicitDefEqProofs only [go_sem, Nat.reduceLT, Nat.reduceEqDiff, Nat.reduceAdd, Nat.reduceLeDiff, Nat.reduceMul, Nat.reduceSub, Int.reduceEq, reduceCtorEq, reduceIte, *]; refine ⟨by simp, ?_⟩; refine dw_nextA 14 (by kernel_rfl) ?_; simp -implicitDefEqProofs only [go_sem, Nat.reduceLT, Nat.reduceEqDiff, Nat.reduceAdd, Nat.reduceLeDiff, Nat.reduceMul, Nat.reduceSub, Int.reduceEq, reduceCtorEq, reduceIte, *]; refine ⟨by simp, ?_⟩; refine dw_nextA 15 (by kernel_rfl) ?_; simp -implicitDefEqProofs only [go_sem, Nat.reduceLT, Nat.reduceEqDiff, Nat.reduceAdd, Nat.reduceLeDiff, Nat.reduceMul, Nat.reduceSub, Int.reduceEq, reduceCtorEq, reduceIte, *]; refine ⟨by simp, ?_⟩; refine dw_done (by kernel_rfl) ?_)
      | (refine fork_intro (fun h => ?_) (fun h => ?_) <;> try simp only [Int.ofNat_lt, Int.ofNat_le, gdV, decide_eq_true_eq, decide_eq_false_iff_not, Bool.not_eq_true', Bool.not_eq_false', reduceCtorEq, Bool.true_eq_false, Bool.false_eq_true] at h))
    refine ⟨⟨i + 1, hlt, hdone hai hok⟩, by show u.length - (i + 1) < u.length - i; omega, ?_⟩
    simp only [hsum, ← hB]
    refine le_fr ?_ ?_ ?_ ?_ <;> simp -implicitDefEqProofs only [go_sem, Nat.reduceLT, Nat.reduceEqDiff, Nat.reduceAdd, Nat.reduceLeDiff, Nat.reduceMul, Nat.reduceSub, Int.reduceEq, reduceCtorEq, reduceIte, *] <;> first | rfl | (rw [wrap64 (by omega) (by omega)]; rfl) | (simp; done) | exact ⟨rfl, rfl⟩ | (refine ⟨rfl, ?_⟩; rw [wrap64 (by omega) (by omega)]; rfl)
  simp only
  repeat' (first
    | refine swp_seq ?_ | refine swp_region ?_ | refine swp_block ?_ | refine swp_skip ?_ | refine swp_ret ?_ | refine swp_exit ?_
    | (refine swp_cond (by simp -implicitDefEqProofs only [go_sem, Nat.reduceLT, Nat.reduceEqDiff, Nat.reduceAdd, Nat.reduceLeDiff, Nat.reduceMul, Nat.reduceSub, Int.reduceEq, reduceCtorEq, reduceIte, *] <;> rfl) (fun h => ?_) (fun h => ?_) <;> try simp only [Int.ofNat_lt, Int.ofNat_le, gdV, decide_eq_true_eq, decide_eq_false_iff_not, Bool.not_eq_true', Bool.not_eq_false', reduceCtorEq, Bool.true_eq_false, Bool.false_eq_true] at h)
    | simp -implicitDefEqProofs only [go_sem, Nat.reduceLT, Nat.reduceEqDiff, Nat.reduceAdd, Nat.reduceLeDiff, Nat.reduceMul, Nat.reduceSub, Int.reduceEq, reduceCtorEq, reduceIte, *]
    | (refine call_view (f := .func 88) (by simp -implicitDefEqProofs only [go_sem, Nat.reduceLT, Nat.reduceEqDiff, Nat.reduceAdd, Nat.reduceLeDiff, Nat.reduceMul, Nat.reduceSub, Int.reduceEq, reduceCtorEq, reduceIte] <;> rfl) (by simp -implicitDefEqProofs only [go_sem, Nat.reduceLT, Nat.reduceEqDiff, Nat.reduceAdd, Nat.reduceLeDiff, Nat.reduceMul, Nat.reduceSub, Int.reduceEq, reduceCtorEq, reduceIte] <;> rfl) (by simp -implicitDefEqProofs only [go_sem, Nat.reduceLT, Nat.reduceEqDiff, Nat.reduceAdd, Nat.reduceLeDiff, Nat.reduceMul, Nat.reduceSub, Int.reduceEq, reduceCtorEq, reduceIte]) (by first | trivial | simp) he88 (fun E => c88 _ _ hu E) (fun sv E' hQ => ?_); subst hQ)
    | (refine fork_intro (fun h => ?_) (fun h => ?_) <;> try simp only [Int.ofNat_lt, Int.ofNat_le, gdV, decide_eq_true_eq, decide_eq_false_iff_not, Bool.not_eq_true', Bool.not_eq_false', reduceCtorEq, Bool.true_eq_false, Bool.false_eq_true] at h))
  · exact ⟨by simp, false, rfl, ⟨fun h => (by cases h), fun hF => absurd hF (hmissS k fun hh => (hh hkt).1 h)⟩⟩
  refine swp_loop (ι := { j : Nat // j ≤ k ∧ ∀ k' (h' : k' < t[i].length), k' < j → t[i][k'] ≠ t[i][k] }) (fun j => fr 99 [.one (.sl false 3 (u.map fc)), .none, .none, .one (.addr (.v 3) [] 0 0 0), .one (.lit (.bool false)), .one (.lit (.int .i64 (base : Int))), .one (.lit (.int .i64 (i : Int))), .one (.lit (.int .i64 (k : Int))), .one (.lit (.int .i64 (j.1 : Int)))] [(3, true, [.sl false 1 (a.map irow), .sl false 1 (t.map ssrow)])])
    (fun j => k - j.1) ⟨0, Nat.zero_le _, fun j _ hj => by omega⟩ ?_ ?_
  · refine le_fr ?_ ?_ ?_ ?_ <;> simp -implicitDefEqProofs only [go_sem, Nat.reduceLT, Nat.reduceEqDiff, Nat.reduceAdd, Nat.reduceLeDiff, Nat.reduceMul, Nat.reduceSub, Int.reduceEq, reduceCtorEq, reduceIte, *] <;> first | rfl | (rw [wrap64 (by omega) (by omega)]; rfl) | (simp; done) | exact ⟨rfl, rfl⟩ | (refine ⟨rfl, ?_⟩; rw [wrap64 (by omega) (by omega)]; rfl)
  rintro ⟨j, hj1, hlowj⟩
  have hjt : j < k → j < t[i].length := fun h => by omega
  have hfnd : ¬ findN u t[i][k] < 0 := by assumption
  repeat' (first
    | refine swp_seq ?_ | refine swp_region ?_ | refine swp_block ?_ | refine swp_skip ?_ | refine swp_ret ?_ | refine swp_exit ?_
    | (refine swp_cond (by simp -implicitDefEqProofs only [go_sem, Nat.reduceLT, Nat.reduceEqDiff, Nat.reduceAdd, Nat.reduceLeDiff, Nat.reduceMul, Nat.reduceSub, Int.reduceEq, reduceCtorEq, reduceIte, *] <;> rfl) (fun h => ?_) (fun h => ?_) <;> try simp only [Int.ofNat_lt, Int.ofNat_le, gdV, decide_eq_true_eq, decide_eq_false_iff_not, Bool.not_eq_true', Bool.not_eq_false', reduceCtorEq, Bool.true_eq_false, Bool.false_eq_true] at h)
    | simp -implicitDefEqProofs only [go_sem, Nat.reduceLT, Nat.reduceEqDiff, Nat.reduceAdd, Nat.reduceLeDiff, Nat.reduceMul, Nat.reduceSub, Int.reduceEq, reduceCtorEq, reduceIte, *]
    | (refine swp_draw (id := 17) [] mixed ?_; show DW _ _ _ _ 17 (Array.replicate 17 false) _ _; refine dw_takes [0, 1, 2, 3, 4, 5, 6, 7, 8, 9, 10, 11, 12, 13, 14, 15, 16] (fuel := 0) rfl (by kernel_rfl) ?_; simp -implicitDefEqProofs only [go_sem, Nat.reduceLT, Nat.reduceEqDiff, Nat.reduceAdd, Nat.reduceLeDiff, Nat.reduceMul, Nat.reduceSub, Int.reduceEq, reduceCtorEq, reduceIte, *]; refine dw_done (by kernel_rfl) ?_)
    | (refine fork_intro (fun h => ?_) (fun h => ?_) <;> try simp only [Int.ofNat_lt, Int.ofNat_le, gdV, decide_eq_true_eq, decide_eq_false_iff_not, Bool.not_eq_true', Bool.not_eq_false', reduceCtorEq, Bool.true_eq_false, Bool.false_eq_true] at h))
  · have h1 : j < k := by assumption
    exact ⟨by simp, false, rfl, ⟨fun h => (by cases h), fun hF => absurd hF (hmissS k fun hh => (hh hkt).2 j (hjt h1) h1 h)⟩⟩
  · have h1 : j < k := by assumption
    refine ⟨⟨j + 1, h1, fun k' h' hk' => ?_⟩, by show k - (j + 1) < k - j; omega, ?_⟩
    · rcases Nat.lt_or_ge k' j with h'' | h''
      · exact hlowj k' h' h''
      · have : k' = j := by omega
        subst this; exact h
    · refine le_fr ?_ ?_ ?_ ?_ <;> simp -implicitDefEqProofs only [go_sem, Nat.reduceLT, Nat.reduceEqDiff, Nat.reduceAdd, Nat.reduceLeDiff, Nat.reduceMul, Nat.reduceSub, Int.reduceEq, reduceCtorEq, reduceIte, *] <;> first | rfl | (rw [wrap64 (by omega) (by omega)]; rfl) | (simp; done) | exact ⟨rfl, rfl⟩ | (refine ⟨rfl, ?_⟩; rw [wrap64 (by omega) (by omega)]; rfl)
  · refine ⟨⟨k + 1, hkt, fun k' hk' => ?_⟩, by show t[i].length - (k + 1) < t[i].length - k; omega, ?_⟩
    · rcases Nat.lt_or_ge k' k with h'' | h''
      · exact hlowk k' h''
      · have : k' = k := by omega
        subst this
        exact fun _ => ⟨hfnd, fun k' h' hk' => hlowj k' h' (by omega)⟩
    · refine le_fr ?_ ?_ ?_ ?_ <;> simp -implicitDefEqProofs only [go_sem, Nat.reduceLT, Nat.reduceEqDiff, Nat.reduceAdd, Nat.reduceLeDiff, Nat.reduceMul, Nat.reduceSub, Int.reduceEq, reduceCtorEq, reduceIte, *] <;> first | rfl | (rw [wrap64 (by omega) (by omega)]; rfl) | (simp; done) | exact ⟨rfl, rfl⟩ | (refine ⟨rfl, ?_⟩; rw [wrap64 (by omega) (by omega)]; rfl)

end Go.Proofs.Ytookjkiagdkajaa
