/- Layouts that are well formed, on the program's side; the address of a spot. No condition. -/
import Derived.Test.YtookjkiagdkajaaE2
open Go Go.AI Go.Proofs
set_option maxRecDepth 100000
set_option maxHeartbeats 4000000
set_option linter.unusedSimpArgs false
set_option linter.unusedVariables false
namespace Go.Proofs.Ytookjkiagdkajaa
attribute [local irreducible] awpOps opA callA Then Fork SWP

theorem mem_take {l : List ByteArray} {k : Nat} {s : ByteArray} : s ∈ l.take k ↔ ∃ k', ∃ h : k' < l.length, k' < k ∧ l[k'] = s := by
  rw [List.mem_iff_getElem]
  constructor
  · rintro ⟨i, hi, rfl⟩
    simp only [List.length_take] at hi
    exact ⟨i, by omega, by omega, by simp⟩
  · rintro ⟨i, hi, hk, rfl⟩
    exact ⟨i, by simp; omega, by simp⟩
theorem c69 (u : List F) (a : List Int) (t : List (List ByteArray)) (hU : smallU u) (hT : smallT t) (E) : AC Try.prog 69 [.one (.sl false 3 (u.map fc)), .agg [.sl false 1 (a.map irow), .sl false 1 (t.map ssrow)]] E
    (fun sv _ => ∃ b : Bool, sv = .one (.lit (.bool b)) ∧ (b = true ↔ FormP u a t)) := by
  have hu := hU.1
  refine AC_of_swp (n := 83) (rs := [.tmp 4]) hf69 rfl rfl rfl rfl rfl ?_
  repeat' (first
    | refine swp_seq ?_ | refine swp_region ?_ | refine swp_block ?_ | refine swp_skip ?_ | refine swp_ret ?_ | refine swp_exit ?_
    | (refine swp_cond (by simp -implicitDefEqProofs only [go_sem, Nat.reduceLT, Nat.reduceEqDiff, Nat.reduceAdd, Nat.reduceLeDiff, Nat.reduceMul, Nat.reduceSub, Int.reduceEq, reduceCtorEq, reduceIte, *] <;> rfl) (fun h => ?_) (fun h => ?_) <;> try simp only [Int.ofNat_lt, Int.ofNat_le, gdV, decide_eq_true_eq, decide_eq_false_iff_not, Bool.not_eq_true', Bool.not_eq_false', reduceCtorEq, Bool.true_eq_false, Bool.false_eq_true] at h)
    | simp -implicitDefEqProofs only [go_sem, Nat.reduceLT, Nat.reduceEqDiff, Nat.reduceAdd, Nat.reduceLeDiff, Nat.reduceMul, Nat.reduceSub, Int.reduceEq, reduceCtorEq, reduceIte, *]
    | (refine call_view (f := .func 61) (by simp -implicitDefEqProofs only [go_sem, Nat.reduceLT, Nat.reduceEqDiff, Nat.reduceAdd, Nat.reduceLeDiff, Nat.reduceMul, Nat.reduceSub, Int.reduceEq, reduceCtorEq, reduceIte] <;> rfl) (by simp -implicitDefEqProofs only [go_sem, Nat.reduceLT, Nat.reduceEqDiff, Nat.reduceAdd, Nat.reduceLeDiff, Nat.reduceMul, Nat.reduceSub, Int.reduceEq, reduceCtorEq, reduceIte] <;> rfl) (by simp -implicitDefEqProofs only [go_sem, Nat.reduceLT, Nat.reduceEqDiff, Nat.reduceAdd, Nat.reduceLeDiff, Nat.reduceMul, Nat.reduceSub, Int.reduceEq, reduceCtorEq, reduceIte]) (by first | trivial | simp) he61 (fun E => c61 _ hU E) (fun sv E' hQ => ?_); subst hQ)
    | (refine fork_intro (fun h => ?_) (fun h => ?_) <;> try simp only [Int.ofNat_lt, Int.ofNat_le, gdV, decide_eq_true_eq, decide_eq_false_iff_not, Bool.not_eq_true', Bool.not_eq_false', reduceCtorEq, Bool.true_eq_false, Bool.false_eq_true] at h))
  all_goals first | (refine ⟨by simp, false, rfl, ⟨fun h => (by cases h), fun hF => ?_⟩⟩; obtain ⟨f1, f2, f3, _⟩ := hF; first | omega | (simp_all; done)) | skip
  have hk : keepOk u = true := by assumption
  have hal : a.length = u.length := by omega
  have htl : t.length = u.length := by omega
  refine swp_loop (ι := { i : Nat // i ≤ u.length ∧ ∀ j, j < i → okRow u a t j }) (fun i => (fr 83 [.one (.sl false 3 (u.map fc)), .none, .none, .one (.addr (.v 3) [] 0 0 0), .one (.lit (.bool false)), .one (.lit (.int .i64 (sumB u t i.1 : Int))), .none, .none, .none, .none, .none, .none, .none, .none, .none, .none, .none, .none, .none, .none, .none, .none, .none, .none, .none, .none, .none, .none, .none, .one (.sl false 3 (u.map fc)), .one (.lit (.int .i64 u.length)), .one (.lit (.int .i64 (i.1 : Int)))] [(3, true, [.sl false 1 (a.map irow), .sl false 1 (t.map ssrow)])]))
    (fun i => u.length - i.1) ⟨0, Nat.zero_le _, fun j hj => by omega⟩ ?_ ?_
  · refine le_fr ?_ ?_ ?_ ?_ <;> simp -implicitDefEqProofs only [go_sem, Nat.reduceLT, Nat.reduceEqDiff, Nat.reduceAdd, Nat.reduceLeDiff, Nat.reduceMul, Nat.reduceSub, Int.reduceEq, reduceCtorEq, reduceIte, *] <;> first | rfl | (rw [wrap64 (by omega) (by omega)]; rfl) | (simp; done) | exact ⟨rfl, rfl⟩ | (refine ⟨rfl, ?_⟩; rw [wrap64 (by omega) (by omega)]; rfl)
  rintro ⟨i, hi, hlow⟩
  rcases Nat.lt_or_ge i u.length with hlt | hge
  case inr =>
    have hn : ¬ i < u.length := by omega
    repeat' (first
      | refine swp_seq ?_ | refine swp_region ?_ | refine swp_block ?_ | refine swp_skip ?_ | refine swp_ret ?_ | refine swp_exit ?_
      | (refine swp_cond (by simp -implicitDefEqProofs only [go_sem, Nat.reduceLT, Nat.reduceEqDiff, Nat.reduceAdd, Nat.reduceLeDiff, Nat.reduceMul, Nat.reduceSub, Int.reduceEq, reduceCtorEq, reduceIte, *] <;> rfl) (fun h => ?_) (fun h => ?_) <;> try simp only [Int.ofNat_lt, Int.ofNat_le, gdV, decide_eq_true_eq, decide_eq_false_iff_not, Bool.not_eq_true', Bool.not_eq_false', reduceCtorEq, Bool.true_eq_false, Bool.false_eq_true] at h)
      | simp -implicitDefEqProofs only [go_sem, Nat.reduceLT, Nat.reduceEqDiff, Nat.reduceAdd, Nat.reduceLeDiff, Nat.reduceMul, Nat.reduceSub, Int.reduceEq, reduceCtorEq, reduceIte, *]
      | (refine fork_intro (fun h => ?_) (fun h => ?_) <;> try simp only [Int.ofNat_lt, Int.ofNat_le, gdV, decide_eq_true_eq, decide_eq_false_iff_not, Bool.not_eq_true', Bool.not_eq_false', reduceCtorEq, Bool.true_eq_false, Bool.false_eq_true] at h))
    exact ⟨by simp, true, rfl, ⟨fun _ => ⟨hk, hal, htl, fun j hj => hlow j (by omega)⟩, fun _ => rfl⟩⟩
  have hla : i < a.length := by omega
  have hlt2 : i < t.length := by omega
  have hsb := sumB_le hU hT i
  have hsb1 := sumB_le hU hT (i + 1)
  have hss : t[i].length ≤ 1048576 := hT.2 _ (List.getElem_mem hlt2)
  have hbb := (smallU_at hU hlt).2.1
  have hsum : sumB u t (i + 1) = sumB u t i + (u[i].bd.length + t[i].length) := by rw [sumB, lenAt_eq hlt hlt2]
  have hww : IntKind.i64.wrap ((sumB u t i : Int) + IntKind.i64.wrap ((u[i].bd.length : Int) + t[i].length)) = ((sumB u t i + (u[i].bd.length + t[i].length) : Nat) : Int) := by
    have hw1 : IntKind.i64.wrap ((u[i].bd.length : Int) + t[i].length) = (u[i].bd.length : Int) + t[i].length := wrap64 (by omega) (by omega)
    rw [hw1, wrap64 (by omega) (by omega)]; omega
  have hmiss : a[i] ≠ (sumB u t i : Int) → ¬ FormP u a t := fun h hF => h (hF.2.2.2 i hlt hla hlt2).1
  have hmissS : ∀ k, ¬ okS u t[i] k → ¬ FormP u a t := fun k h hF => h ((hF.2.2.2 i hlt hla hlt2).2 k)
  have hdone : a[i] = (sumB u t i : Int) → (∀ k, okS u t[i] k) → ∀ j, j < i + 1 → okRow u a t j := fun h1 h2 j hj => by
    rcases Nat.lt_or_ge j i with h' | h'
    · exact hlow j h'
    · have : j = i := by omega
      subst this; exact fun _ _ => ⟨h1, h2⟩
  simp only
  clear hlow
  generalize hB : sumB u t i = base at *
  repeat' (first
    | refine swp_seq ?_ | refine swp_region ?_ | refine swp_block ?_ | refine swp_skip ?_ | refine swp_ret ?_ | refine swp_exit ?_
    | (refine swp_cond (by simp -implicitDefEqProofs only [go_sem, Nat.reduceLT, Nat.reduceEqDiff, Nat.reduceAdd, Nat.reduceLeDiff, Nat.reduceMul, Nat.reduceSub, Int.reduceEq, reduceCtorEq, reduceIte, *] <;> rfl) (fun h => ?_) (fun h => ?_) <;> try simp only [Int.ofNat_lt, Int.ofNat_le, gdV, decide_eq_true_eq, decide_eq_false_iff_not, Bool.not_eq_true', Bool.not_eq_false', reduceCtorEq, Bool.true_eq_false, Bool.false_eq_true] at h)
    | simp -implicitDefEqProofs only [go_sem, Nat.reduceLT, Nat.reduceEqDiff, Nat.reduceAdd, Nat.reduceLeDiff, Nat.reduceMul, Nat.reduceSub, Int.reduceEq, reduceCtorEq, reduceIte, *]
    | (refine fork_intro (fun h => ?_) (fun h => ?_) <;> try simp only [Int.ofNat_lt, Int.ofNat_le, gdV, decide_eq_true_eq, decide_eq_false_iff_not, Bool.not_eq_true', Bool.not_eq_false', reduceCtorEq, Bool.true_eq_false, Bool.false_eq_true] at h))
  · exact ⟨by simp, false, rfl, ⟨fun h => (by cases h), fun hF => absurd hF (hmiss h)⟩⟩
  have hai : a[i] = (base : Int) := by omega
  refine swp_loop (ι := { k : Nat // k ≤ t[i].length ∧ ∀ k', k' < k → okS u t[i] k' }) (fun k => (fr 83 [.one (.sl false 3 (u.map fc)), .none, .none, .one (.addr (.v 3) [] 0 0 0), .one (.lit (.bool false)), .one (.lit (.int .i64 (base : Int))), .one (.lit (.int .i64 (i : Int))), .one (.addr (.v 7) [] 0 0 0), .none, .none, .none, .none, .none, .none, .none, .none, .none, .none, .none, .none, .none, .none, .none, .none, .none, .none, .none, .none, .none, .one (.sl false 3 (u.map fc)), .one (.lit (.int .i64 u.length)), .one (.lit (.int .i64 (i : Int))), .none, .none, .none, .none, .none, .none, .none, .none, .none, .none, .none, .none, .none, .none, .none, .one (.sl false 1 (t[i].map strRow)), .one (.lit (.int .i64 t[i].length)), .one (.lit (.int .i64 (k.1 : Int)))] [(3, true, [.sl false 1 (a.map irow), .sl false 1 (t.map ssrow)]), (7, true, [.lit (.string u[i].nm), .lit (.bool u[i].wk), .sl false 3 (u[i].bd.map ic)])]))
    (fun k => t[i].length - k.1) ⟨0, Nat.zero_le _, fun j hj => by omega⟩ ?_ ?_
  · refine le_fr ?_ ?_ ?_ ?_ <;> simp -implicitDefEqProofs only [go_sem, Nat.reduceLT, Nat.reduceEqDiff, Nat.reduceAdd, Nat.reduceLeDiff, Nat.reduceMul, Nat.reduceSub, Int.reduceEq, reduceCtorEq, reduceIte, *] <;> first | rfl | (rw [wrap64 (by omega) (by omega)]; rfl) | (simp; done) | exact ⟨rfl, rfl⟩ | (refine ⟨rfl, ?_⟩; rw [wrap64 (by omega) (by omega)]; rfl)
  rintro ⟨k, hk1, hlowk⟩
  rcases Nat.lt_or_ge k t[i].length with hkt | hkt
  case inr =>
    have hn : ¬ k < t[i].length := by omega
    have hok : ∀ k, okS u t[i] k := fun k' => by
      rcases Nat.lt_or_ge k' k with h' | h'
      · exact hlowk k' h'
      · exact fun h => absurd h (by omega)
    repeat' (first
      | refine swp_seq ?_ | refine swp_region ?_ | refine swp_block ?_ | refine swp_skip ?_ | refine swp_ret ?_ | refine swp_exit ?_
      | (refine swp_cond (by simp -implicitDefEqProofs only [go_sem, Nat.reduceLT, Nat.reduceEqDiff, Nat.reduceAdd, Nat.reduceLeDiff, Nat.reduceMul, Nat.reduceSub, Int.reduceEq, reduceCtorEq, reduceIte, *] <;> rfl) (fun h => ?_) (fun h => ?_) <;> try simp only [Int.ofNat_lt, Int.ofNat_le, gdV, decide_eq_true_eq, decide_eq_false_iff_not, Bool.not_eq_true', Bool.not_eq_false', reduceCtorEq, Bool.true_eq_false, Bool.false_eq_true] at h)
      | simp -implicitDefEqProofs only [go_sem, Nat.reduceLT, Nat.reduceEqDiff, Nat.reduceAdd, Nat.reduceLeDiff, Nat.reduceMul, Nat.reduceSub, Int.reduceEq, reduceCtorEq, reduceIte, *]
      | (refine swp_draw (id := 15) [.s 70, .s 81, .s 5] mixed ?_; show DW _ _ _ _ 13 (Array.replicate 13 false) _ _; refine dw_takes [1, 2, 3, 4, 5, 6, 7, 8, 9, 10] (fuel := 3) rfl (by kernel_rfl) ?_; simp -implicitDefEqProofs only [go_sem, Nat.reduceLT, Nat.reduceEqDiff, Nat.reduceAdd, Nat.reduceLeDiff, Nat.reduceMul, Nat.reduceSub, Int.reduceEq, reduceCtorEq, reduceIte, *]; refine dw_nextA 0 (by kernel_rfl) ?_; simp -implicitDefEqProofs only [go_sem, Nat.reduceLT, Nat.reduceEqDiff, Nat.reduceAdd, Nat.reduceLeDiff, Nat.reduceMul, Nat.reduceSub, Int.reduceEq, reduceCtorEq, reduceIte, *]; refine ⟨by simp, ?_⟩; refine dw_nextA 11 (by kernel_rfl) ?_; simp -implicitDefEqProofs only [go_sem, Nat.reduceLT, Nat.reduceEqDiff, Nat.reduceAdd, Nat.reduceLeDiff, Nat.reduceMul, Nat.reduceSub, Int.reduceEq, reduceCtorEq, reduceIte, *]; refine ⟨by simp, ?_⟩; refine dw_nextA 12 (by kernel_rfl) ?_; simp -implicitDefEqProofs only [go_sem, Nat.reduceLT, Nat.reduceEqDiff, Nat.reduceAdd, Nat.reduceLeDiff, Nat.reduceMul, Nat.reduceSub, Int.reduceEq, reduceCtorEq, reduceIte, *]; refine ⟨by simp, ?_⟩; refine dw_done (by kernel_rfl) ?_)
      | (refine fork_intro (fun h => ?_) (fun h => ?_) <;> try simp only [Int.ofNat_lt, Int.ofNat_le, gdV, decide_eq_true_eq, decide_eq_false_iff_not, Bool.not_eq_true', Bool.not_eq_false', reduceCtorEq, Bool.true_eq_false, Bool.false_eq_true] at h))
    refine ⟨⟨i + 1, hlt, hdone hai hok⟩, by show u.length - (i + 1) < u.length - i; omega, ?_⟩
    simp only [hsum, ← hB]
    refine le_fr ?_ ?_ ?_ ?_ <;> simp -implicitDefEqProofs only [go_sem, Nat.reduceLT, Nat.reduceEqDiff, Nat.reduceAdd, Nat.reduceLeDiff, Nat.reduceMul, Nat.reduceSub, Int.reduceEq, reduceCtorEq, reduceIte, *] <;> first | rfl | (rw [wrap64 (by omega) (by omega)]; rfl) | (simp; done) | exact ⟨rfl, rfl⟩ | (refine ⟨rfl, ?_⟩; rw [wrap64 (by omega) (by omega)]; rfl)
  have hht : (t[i].take k).length ≤ 1048576 := by simp only [List.length_take]; omega
  have hok : okS u t[i] k ↔ ¬ findN u t[i][k] < 0 ∧ hasB (t[i].take k) t[i][k] = false := by
    rw [← Bool.not_eq_true, hasB_iff, mem_take]
    constructor
    · intro h
      refine ⟨(h hkt).1, ?_⟩
      rintro ⟨k', h1, h2, h3⟩
      exact (h hkt).2 k' h1 h2 h3
    · rintro ⟨h1, h2⟩ _
      exact ⟨h1, fun k' h' hk' e => h2 ⟨k', h', hk', e⟩⟩
  simp only
  repeat' (first
    | refine swp_seq ?_ | refine swp_region ?_ | refine swp_block ?_ | refine swp_skip ?_ | refine swp_ret ?_ | refine swp_exit ?_
    | (refine swp_cond (by simp -implicitDefEqProofs only [go_sem, Nat.reduceLT, Nat.reduceEqDiff, Nat.reduceAdd, Nat.reduceLeDiff, Nat.reduceMul, Nat.reduceSub, Int.reduceEq, reduceCtorEq, reduceIte, *] <;> rfl) (fun h => ?_) (fun h => ?_) <;> try simp only [Int.ofNat_lt, Int.ofNat_le, gdV, decide_eq_true_eq, decide_eq_false_iff_not, Bool.not_eq_true', Bool.not_eq_false', reduceCtorEq, Bool.true_eq_false, Bool.false_eq_true] at h)
    | simp -implicitDefEqProofs only [go_sem, Nat.reduceLT, Nat.reduceEqDiff, Nat.reduceAdd, Nat.reduceLeDiff, Nat.reduceMul, Nat.reduceSub, Int.reduceEq, reduceCtorEq, reduceIte, List.drop_zero, ← List.map_take, *]
    | (refine call_view (f := .func 95) (by simp -implicitDefEqProofs only [go_sem, Nat.reduceLT, Nat.reduceEqDiff, Nat.reduceAdd, Nat.reduceLeDiff, Nat.reduceMul, Nat.reduceSub, Int.reduceEq, reduceCtorEq, reduceIte] <;> rfl) (by simp -implicitDefEqProofs only [go_sem, Nat.reduceLT, Nat.reduceEqDiff, Nat.reduceAdd, Nat.reduceLeDiff, Nat.reduceMul, Nat.reduceSub, Int.reduceEq, reduceCtorEq, reduceIte] <;> rfl) (by simp -implicitDefEqProofs only [go_sem, Nat.reduceLT, Nat.reduceEqDiff, Nat.reduceAdd, Nat.reduceLeDiff, Nat.reduceMul, Nat.reduceSub, Int.reduceEq, reduceCtorEq, reduceIte]) (by first | trivial | simp) he95 (fun E => c95 _ _ hu E) (fun sv E' hQ => ?_); subst hQ)
    | (refine call_view (f := .func 96) (by simp -implicitDefEqProofs only [go_sem, Nat.reduceLT, Nat.reduceEqDiff, Nat.reduceAdd, Nat.reduceLeDiff, Nat.reduceMul, Nat.reduceSub, Int.reduceEq, reduceCtorEq, reduceIte] <;> rfl) (by simp -implicitDefEqProofs only [go_sem, Nat.reduceLT, Nat.reduceEqDiff, Nat.reduceAdd, Nat.reduceLeDiff, Nat.reduceMul, Nat.reduceSub, Int.reduceEq, reduceCtorEq, reduceIte] <;> rfl) (by simp -implicitDefEqProofs only [go_sem, Nat.reduceLT, Nat.reduceEqDiff, Nat.reduceAdd, Nat.reduceLeDiff, Nat.reduceMul, Nat.reduceSub, Int.reduceEq, reduceCtorEq, reduceIte]) (by first | trivial | simp) he96 (fun E => c96 _ _ hht E) (fun sv E' hQ => ?_); subst hQ)
    | (refine fork_intro (fun h => ?_) (fun h => ?_) <;> try simp only [Int.ofNat_lt, Int.ofNat_le, gdV, decide_eq_true_eq, decide_eq_false_iff_not, Bool.not_eq_true', Bool.not_eq_false', reduceCtorEq, Bool.true_eq_false, Bool.false_eq_true] at h))
  
  · have h2 : hasB (t[i].take k) t[i][k] = true := by assumption
    exact ⟨by simp, false, rfl, ⟨fun h => (by cases h), fun hF => absurd hF (hmissS k fun hh => by rw [(hok.1 hh).2] at h2; cases h2)⟩⟩
  · have h1 : ¬ findN u t[i][k] < 0 := by assumption
    have h2 : hasB (t[i].take k) t[i][k] = false := by assumption
    refine ⟨⟨k + 1, hkt, fun k' hk' => ?_⟩, by show t[i].length - (k + 1) < t[i].length - k; omega, ?_⟩
    · rcases Nat.lt_or_ge k' k with h'' | h''
      · exact hlowk k' h''
      · have : k' = k := by omega
        subst this
        exact hok.2 ⟨h1, h2⟩
    · refine le_fr ?_ ?_ ?_ ?_ <;> simp -implicitDefEqProofs only [go_sem, Nat.reduceLT, Nat.reduceEqDiff, Nat.reduceAdd, Nat.reduceLeDiff, Nat.reduceMul, Nat.reduceSub, Int.reduceEq, reduceCtorEq, reduceIte, *] <;> first | rfl | (rw [wrap64 (by omega) (by omega)]; rfl) | (simp; done) | exact ⟨rfl, rfl⟩ | (refine ⟨rfl, ?_⟩; rw [wrap64 (by omega) (by omega)]; rfl)
  · have h1 : findN u t[i][k] < 0 := by assumption
    exact ⟨by simp, false, rfl, ⟨fun h => (by cases h), fun hF => absurd hF (hmissS k fun hh => (hok.1 hh).1 h1)⟩⟩

def SpotP (u : List F) (f p : Int) : Prop := 0 ≤ f ∧ 0 ≤ p ∧ ∃ a, u[f.toNat]? = some a ∧ p < a.bd.length
theorem spot_nat {u : List F} {n : Nat} {p : Int} (h : n < u.length) : SpotP u n p ↔ 0 ≤ p ∧ p < u[n].bd.length := by
  simp [SpotP, h]
theorem spot_no {u : List F} {f p : Int} (h : ¬ (0 ≤ f ∧ f < u.length)) : ¬ SpotP u f p := by
  rintro ⟨h1, h2, a, h3, h4⟩
  have := (List.getElem?_eq_some_iff.1 h3).1
  omega

theorem c66 (u : List F) (f p : Int) (hU : smallU u) (E) : AC Try.prog 66 [.one (.sl false 3 (u.map fc)), .agg [.lit (.int .i64 f), .lit (.int .i64 p)]] E
    (fun sv _ => ∃ b : Bool, sv = .one (.lit (.bool b)) ∧ (b = true ↔ SpotP u f p)) := by
  have hu := hU.1
  have hw : IntKind.i64.wrap ((u.length : Int) - 1) = (u.length : Int) - 1 := wrap64 (by omega) (by omega)
  rcases Int.lt_or_le f 0 with h0 | h0
  · have h1 : ¬ 0 ≤ f := by omega
    have hno := spot_no (u := u) (p := p) (f := f) (by omega)
    have hd1 : decide (0 ≤ f) = false := by simpa using h1
    generalize hE : SpotP u f p = PP at *
    refine AC_of_swp (n := 32) (rs := [.tmp 4]) hf66 rfl rfl rfl rfl rfl ?_
    repeat' (first
      | refine swp_seq ?_ | refine swp_region ?_ | refine swp_block ?_ | refine swp_skip ?_ | refine swp_ret ?_ | refine swp_exit ?_
      | (refine swp_cond (by simp -implicitDefEqProofs only [go_sem, Nat.reduceLT, Nat.reduceEqDiff, Nat.reduceAdd, Nat.reduceLeDiff, Nat.reduceMul, Nat.reduceSub, Int.reduceEq, reduceCtorEq, reduceIte, *] <;> rfl) (fun h => ?_) (fun h => ?_) <;> try simp only [Int.ofNat_lt, Int.ofNat_le, gdV, decide_eq_true_eq, decide_eq_false_iff_not, Bool.not_eq_true', Bool.not_eq_false', reduceCtorEq, Bool.true_eq_false, Bool.false_eq_true] at h)
      | simp -implicitDefEqProofs only [go_sem, Nat.reduceLT, Nat.reduceEqDiff, Nat.reduceAdd, Nat.reduceLeDiff, Nat.reduceMul, Nat.reduceSub, Int.reduceEq, reduceCtorEq, reduceIte, *]
      | (refine swp_draw (id := 1) [.s 4] mixed ?_; show DW _ _ _ _ 28 (Array.replicate 28 false) _ _; refine dw_takes [0, 1, 2, 3, 4, 5, 6, 7, 8, 9, 10, 11, 12, 13, 14, 15, 16, 17, 18, 19, 20, 21, 22, 23, 24, 25, 26] (fuel := 1) rfl (by kernel_rfl) ?_; simp -implicitDefEqProofs only [go_sem, Nat.reduceLT, Nat.reduceEqDiff, Nat.reduceAdd, Nat.reduceLeDiff, Nat.reduceMul, Nat.reduceSub, Int.reduceEq, reduceCtorEq, reduceIte, *]; refine dw_nextA 27 (by kernel_rfl) ?_; simp -implicitDefEqProofs only [go_sem, Nat.reduceLT, Nat.reduceEqDiff, Nat.reduceAdd, Nat.reduceLeDiff, Nat.reduceMul, Nat.reduceSub, Int.reduceEq, reduceCtorEq, reduceIte, *]; refine ⟨by simp, ?_⟩; refine dw_done (by kernel_rfl) ?_)
      | (refine fork_intro (fun h => ?_) (fun h => ?_) <;> try simp only [Int.ofNat_lt, Int.ofNat_le, gdV, decide_eq_true_eq, decide_eq_false_iff_not, Bool.not_eq_true', Bool.not_eq_false', reduceCtorEq, Bool.true_eq_false, Bool.false_eq_true] at h))
    all_goals exact ⟨by simp, false, rfl, by simp [hno]⟩
  obtain ⟨n, rfl⟩ := Int.eq_ofNat_of_zero_le h0
  rcases Nat.lt_or_ge n u.length with h1 | h1
  case inr =>
    have hno := spot_no (u := u) (p := p) (f := n) (by omega)
    have h2 : ¬ (n : Int) ≤ (u.length : Int) - 1 := by omega
    have h3 : ¬ n < u.length := by omega
    have hd1 : decide (0 ≤ (n : Int)) = true := by simp
    have hd2 : decide ((n : Int) ≤ (u.length : Int) - 1) = false := by simpa using h2
    have hd3 : decide (n < u.length) = false := by simpa using h3
    generalize hE : SpotP u n p = PP at *
    refine AC_of_swp (n := 32) (rs := [.tmp 4]) hf66 rfl rfl rfl rfl rfl ?_
    repeat' (first
      | refine swp_seq ?_ | refine swp_region ?_ | refine swp_block ?_ | refine swp_skip ?_ | refine swp_ret ?_ | refine swp_exit ?_
      | (refine swp_cond (by simp -implicitDefEqProofs only [go_sem, Nat.reduceLT, Nat.reduceEqDiff, Nat.reduceAdd, Nat.reduceLeDiff, Nat.reduceMul, Nat.reduceSub, Int.reduceEq, reduceCtorEq, reduceIte, *] <;> rfl) (fun h => ?_) (fun h => ?_) <;> try simp only [Int.ofNat_lt, Int.ofNat_le, gdV, decide_eq_true_eq, decide_eq_false_iff_not, Bool.not_eq_true', Bool.not_eq_false', reduceCtorEq, Bool.true_eq_false, Bool.false_eq_true] at h)
      | simp -implicitDefEqProofs only [go_sem, Nat.reduceLT, Nat.reduceEqDiff, Nat.reduceAdd, Nat.reduceLeDiff, Nat.reduceMul, Nat.reduceSub, Int.reduceEq, reduceCtorEq, reduceIte, *]
      | (refine swp_draw (id := 1) [.s 4] mixed ?_; show DW _ _ _ _ 28 (Array.replicate 28 false) _ _; refine dw_takes [0, 1, 2, 3, 4, 5, 6, 7, 8, 9, 10, 11, 12, 13, 14, 15, 16, 17, 18, 19, 20, 21, 22, 23, 24, 25, 26] (fuel := 1) rfl (by kernel_rfl) ?_; simp -implicitDefEqProofs only [go_sem, Nat.reduceLT, Nat.reduceEqDiff, Nat.reduceAdd, Nat.reduceLeDiff, Nat.reduceMul, Nat.reduceSub, Int.reduceEq, reduceCtorEq, reduceIte, *]; refine dw_nextA 27 (by kernel_rfl) ?_; simp -implicitDefEqProofs only [go_sem, Nat.reduceLT, Nat.reduceEqDiff, Nat.reduceAdd, Nat.reduceLeDiff, Nat.reduceMul, Nat.reduceSub, Int.reduceEq, reduceCtorEq, reduceIte, *]; refine ⟨by simp, ?_⟩; refine dw_done (by kernel_rfl) ?_)
      | (refine fork_intro (fun h => ?_) (fun h => ?_) <;> try simp only [Int.ofNat_lt, Int.ofNat_le, gdV, decide_eq_true_eq, decide_eq_false_iff_not, Bool.not_eq_true', Bool.not_eq_false', reduceCtorEq, Bool.true_eq_false, Bool.false_eq_true] at h))
    all_goals exact ⟨by simp, false, rfl, by simp [hno]⟩
  have hl := smallU_at hU h1
  have hl1 := hl.2.1
  have hw2 : IntKind.i64.wrap ((u[n].bd.length : Int) - 1) = (u[n].bd.length : Int) - 1 := wrap64 (by omega) (by omega)
  have hd1 : decide (0 ≤ (n : Int)) = true := by simp
  have hd2 : decide ((n : Int) ≤ (u.length : Int) - 1) = true := by simp; omega
  have hd3 : decide (n < u.length) = true := by simp; omega
  simp only [spot_nat h1]
  have hs : (decide (0 ≤ p) && decide (p < (u[n].bd.length : Int))) = decide (0 ≤ p ∧ p < u[n].bd.length) := by rw [Bool.eq_iff_iff]; simp
  have hs2 : (decide (0 ≤ p) && decide (p ≤ (u[n].bd.length : Int) - 1)) = decide (0 ≤ p ∧ p < u[n].bd.length) := by rw [Bool.eq_iff_iff]; simp; omega
  refine AC_of_swp (n := 32) (rs := [.tmp 4]) hf66 rfl rfl rfl rfl rfl ?_
  repeat' (first
    | refine swp_seq ?_ | refine swp_region ?_ | refine swp_block ?_ | refine swp_skip ?_ | refine swp_ret ?_ | refine swp_exit ?_
    | (refine swp_cond (by simp -implicitDefEqProofs only [go_sem, Nat.reduceLT, Nat.reduceEqDiff, Nat.reduceAdd, Nat.reduceLeDiff, Nat.reduceMul, Nat.reduceSub, Int.reduceEq, reduceCtorEq, reduceIte, *] <;> rfl) (fun h => ?_) (fun h => ?_) <;> try simp only [Int.ofNat_lt, Int.ofNat_le, gdV, decide_eq_true_eq, decide_eq_false_iff_not, Bool.not_eq_true', Bool.not_eq_false', reduceCtorEq, Bool.true_eq_false, Bool.false_eq_true] at h)
    | simp -implicitDefEqProofs only [go_sem, Nat.reduceLT, Nat.reduceEqDiff, Nat.reduceAdd, Nat.reduceLeDiff, Nat.reduceMul, Nat.reduceSub, Int.reduceEq, reduceCtorEq, reduceIte, *]
    | (refine swp_draw (id := 1) [.s 4] mixed ?_; show DW _ _ _ _ 28 (Array.replicate 28 false) _ _; refine dw_takes [0, 1, 2, 3, 4, 5, 6, 7, 8, 9, 10, 11, 12, 13, 14, 15] (fuel := 12) rfl (by kernel_rfl) ?_; simp -implicitDefEqProofs only [go_sem, Nat.reduceLT, Nat.reduceEqDiff, Nat.reduceAdd, Nat.reduceLeDiff, Nat.reduceMul, Nat.reduceSub, Int.reduceEq, reduceCtorEq, reduceIte, *]; refine dw_split 16 (by simp -implicitDefEqProofs only [go_sem, Nat.reduceLT, Nat.reduceEqDiff, Nat.reduceAdd, Nat.reduceLeDiff, Nat.reduceMul, Nat.reduceSub, Int.reduceEq, reduceCtorEq, reduceIte, *] <;> rfl) (by simp -implicitDefEqProofs only [go_sem, Nat.reduceLT, Nat.reduceEqDiff, Nat.reduceAdd, Nat.reduceLeDiff, Nat.reduceMul, Nat.reduceSub, Int.reduceEq, reduceCtorEq, reduceIte, *] <;> rfl) ?T1 ?F1; (case' T1 => (intro hb; first | (cases hb; done) | ((try simp only [Int.ofNat_lt, Int.ofNat_le, gdV, decide_eq_true_eq, decide_eq_false_iff_not, Bool.not_eq_true', Bool.not_eq_false', reduceCtorEq, Bool.true_eq_false, Bool.false_eq_true] at hb); first | (exfalso; omega) | (refine dw_takes [16, 17, 18, 19, 20, 21, 22, 23, 24, 25, 26] (fuel := 1) rfl (by kernel_rfl) ?_; simp -implicitDefEqProofs only [go_sem, Nat.reduceLT, Nat.reduceEqDiff, Nat.reduceAdd, Nat.reduceLeDiff, Nat.reduceMul, Nat.reduceSub, Int.reduceEq, reduceCtorEq, reduceIte, *]; refine dw_nextA 27 (by kernel_rfl) ?_; simp -implicitDefEqProofs only [go_sem, Nat.reduceLT, Nat.reduceEqDiff, Nat.reduceAdd, Nat.reduceLeDiff, Nat.reduceMul, Nat.reduceSub, Int.reduceEq, reduceCtorEq, reduceIte, *]; refine ⟨by simp, ?_⟩; refine dw_done (by kernel_rfl) ?_)))); (case' F1 => (intro hb; first | (cases hb; done) | ((try simp only [Int.ofNat_lt, Int.ofNat_le, gdV, decide_eq_true_eq, decide_eq_false_iff_not, Bool.not_eq_true', Bool.not_eq_false', reduceCtorEq, Bool.true_eq_false, Bool.false_eq_true] at hb); first | (exfalso; omega) | (refine dw_takes [16, 17, 18, 19, 20, 21, 22, 23, 24, 25, 26] (fuel := 1) rfl (by kernel_rfl) ?_; simp -implicitDefEqProofs only [go_sem, Nat.reduceLT, Nat.reduceEqDiff, Nat.reduceAdd, Nat.reduceLeDiff, Nat.reduceMul, Nat.reduceSub, Int.reduceEq, reduceCtorEq, reduceIte, *]; refine dw_nextA 27 (by kernel_rfl) ?_; simp -implicitDefEqProofs only [go_sem, Nat.reduceLT, Nat.reduceEqDiff, Nat.reduceAdd, Nat.reduceLeDiff, Nat.reduceMul, Nat.reduceSub, Int.reduceEq, reduceCtorEq, reduceIte, *]; refine ⟨by simp, ?_⟩; refine dw_done (by kernel_rfl) ?_)))))
    | (refine fork_intro (fun h => ?_) (fun h => ?_) <;> try simp only [Int.ofNat_lt, Int.ofNat_le, gdV, decide_eq_true_eq, decide_eq_false_iff_not, Bool.not_eq_true', Bool.not_eq_false', reduceCtorEq, Bool.true_eq_false, Bool.false_eq_true] at h))
  all_goals exact ⟨by simp, _, rfl, by simp⟩

theorem c70 (u : List F) (f p : Int) (hU : smallU u) (E) : AC Try.prog 70 [.one (.sl false 3 (u.map fc)), .agg [.lit (.int .i64 f), .lit (.int .i64 p)]] E
    (fun sv _ => ∃ b : Bool, sv = .one (.lit (.bool b)) ∧ (b = true ↔ SpotP u f p)) := by
  have hu := hU.1
  have hw : IntKind.i64.wrap ((u.length : Int) - 1) = (u.length : Int) - 1 := wrap64 (by omega) (by omega)
  rcases Int.lt_or_le f 0 with h0 | h0
  · have h1 : ¬ 0 ≤ f := by omega
    have hno := spot_no (u := u) (p := p) (f := f) (by omega)
    have hd1 : decide (0 ≤ f) = false := by simpa using h1
    generalize hE : SpotP u f p = PP at *
    refine AC_of_swp (n := 24) (rs := [.tmp 4]) hf70 rfl rfl rfl rfl rfl ?_
    repeat' (first
      | refine swp_seq ?_ | refine swp_region ?_ | refine swp_block ?_ | refine swp_skip ?_ | refine swp_ret ?_ | refine swp_exit ?_
      | (refine swp_cond (by simp -implicitDefEqProofs only [go_sem, Nat.reduceLT, Nat.reduceEqDiff, Nat.reduceAdd, Nat.reduceLeDiff, Nat.reduceMul, Nat.reduceSub, Int.reduceEq, reduceCtorEq, reduceIte, *] <;> rfl) (fun h => ?_) (fun h => ?_) <;> try simp only [Int.ofNat_lt, Int.ofNat_le, gdV, decide_eq_true_eq, decide_eq_false_iff_not, Bool.not_eq_true', Bool.not_eq_false', reduceCtorEq, Bool.true_eq_false, Bool.false_eq_true] at h)
      | simp -implicitDefEqProofs only [go_sem, Nat.reduceLT, Nat.reduceEqDiff, Nat.reduceAdd, Nat.reduceLeDiff, Nat.reduceMul, Nat.reduceSub, Int.reduceEq, reduceCtorEq, reduceIte, *]
      | (refine swp_draw (id := 1) [.s 10, .s 22, .s 4] mixed ?_; show DW _ _ _ _ 20 (Array.replicate 20 false) _ _; refine dw_takes [0, 1, 2, 3, 4] (fuel := 15) rfl (by kernel_rfl) ?_; simp -implicitDefEqProofs only [go_sem, Nat.reduceLT, Nat.reduceEqDiff, Nat.reduceAdd, Nat.reduceLeDiff, Nat.reduceMul, Nat.reduceSub, Int.reduceEq, reduceCtorEq, reduceIte, *]; refine dw_nextA 5 (by kernel_rfl) ?_; simp -implicitDefEqProofs only [go_sem, Nat.reduceLT, Nat.reduceEqDiff, Nat.reduceAdd, Nat.reduceLeDiff, Nat.reduceMul, Nat.reduceSub, Int.reduceEq, reduceCtorEq, reduceIte, *]; (first | (refine call_view (f := .func 49) (by simp -implicitDefEqProofs only [go_sem, Nat.reduceLT, Nat.reduceEqDiff, Nat.reduceAdd, Nat.reduceLeDiff, Nat.reduceMul, Nat.reduceSub, Int.reduceEq, reduceCtorEq, reduceIte] <;> rfl) (by simp -implicitDefEqProofs only [go_sem, Nat.reduceLT, Nat.reduceEqDiff, Nat.reduceAdd, Nat.reduceLeDiff, Nat.reduceMul, Nat.reduceSub, Int.reduceEq, reduceCtorEq, reduceIte] <;> rfl) (by simp -implicitDefEqProofs only [go_sem, Nat.reduceLT, Nat.reduceEqDiff, Nat.reduceAdd, Nat.reduceLeDiff, Nat.reduceMul, Nat.reduceSub, Int.reduceEq, reduceCtorEq, reduceIte]) (by first | trivial | simp) he49 (fun E => c49 _ _ _ E) (fun sv E' hQ => ?_); subst hQ)); (try refine ⟨by simp [SV.Fresh], ?_⟩); refine dw_knowA [.s 22, .s 4] 10 (by kernel_rfl) ?_; simp -implicitDefEqProofs only [go_sem, Nat.reduceLT, Nat.reduceEqDiff, Nat.reduceAdd, Nat.reduceLeDiff, Nat.reduceMul, Nat.reduceSub, Int.reduceEq, reduceCtorEq, reduceIte, *]; refine dw_takes [6, 7, 8, 9, 10, 11, 12, 13, 14, 15, 16] (fuel := 3) rfl (by kernel_rfl) ?_; simp -implicitDefEqProofs only [go_sem, Nat.reduceLT, Nat.reduceEqDiff, Nat.reduceAdd, Nat.reduceLeDiff, Nat.reduceMul, Nat.reduceSub, Int.reduceEq, reduceCtorEq, reduceIte, *]; refine dw_nextA 17 (by kernel_rfl) ?_; simp -implicitDefEqProofs only [go_sem, Nat.reduceLT, Nat.reduceEqDiff, Nat.reduceAdd, Nat.reduceLeDiff, Nat.reduceMul, Nat.reduceSub, Int.reduceEq, reduceCtorEq, reduceIte, *]; refine dw_knowA [.s 4] 22 (by kernel_rfl) ?_; simp -implicitDefEqProofs only [go_sem, Nat.reduceLT, Nat.reduceEqDiff, Nat.reduceAdd, Nat.reduceLeDiff, Nat.reduceMul, Nat.reduceSub, Int.reduceEq, reduceCtorEq, reduceIte, *]; refine dw_takes [18] (fuel := 1) rfl (by kernel_rfl) ?_; simp -implicitDefEqProofs only [go_sem, Nat.reduceLT, Nat.reduceEqDiff, Nat.reduceAdd, Nat.reduceLeDiff, Nat.reduceMul, Nat.reduceSub, Int.reduceEq, reduceCtorEq, reduceIte, *]; refine dw_nextA 19 (by kernel_rfl) ?_; simp -implicitDefEqProofs only [go_sem, Nat.reduceLT, Nat.reduceEqDiff, Nat.reduceAdd, Nat.reduceLeDiff, Nat.reduceMul, Nat.reduceSub, Int.reduceEq, reduceCtorEq, reduceIte, *]; refine ⟨by simp, ?_⟩; refine dw_done (by kernel_rfl) ?_)
      | (refine fork_intro (fun h => ?_) (fun h => ?_) <;> try simp only [Int.ofNat_lt, Int.ofNat_le, gdV, decide_eq_true_eq, decide_eq_false_iff_not, Bool.not_eq_true', Bool.not_eq_false', reduceCtorEq, Bool.true_eq_false, Bool.false_eq_true] at h))
    all_goals exact ⟨by simp, false, rfl, by simp [hno]⟩
  obtain ⟨n, rfl⟩ := Int.eq_ofNat_of_zero_le h0
  rcases Nat.lt_or_ge n u.length with h1 | h1
  case inr =>
    have hno := spot_no (u := u) (p := p) (f := n) (by omega)
    have h2 : ¬ (n : Int) ≤ (u.length : Int) - 1 := by omega
    have h3 : ¬ n < u.length := by omega
    have hd1 : decide (0 ≤ (n : Int)) = true := by simp
    have hd2 : decide ((n : Int) ≤ (u.length : Int) - 1) = false := by simpa using h2
    have hd3 : decide (n < u.length) = false := by simpa using h3
    generalize hE : SpotP u n p = PP at *
    refine AC_of_swp (n := 24) (rs := [.tmp 4]) hf70 rfl rfl rfl rfl rfl ?_
    repeat' (first
      | refine swp_seq ?_ | refine swp_region ?_ | refine swp_block ?_ | refine swp_skip ?_ | refine swp_ret ?_ | refine swp_exit ?_
      | (refine swp_cond (by simp -implicitDefEqProofs only [go_sem, Nat.reduceLT, Nat.reduceEqDiff, Nat.reduceAdd, Nat.reduceLeDiff, Nat.reduceMul, Nat.reduceSub, Int.reduceEq, reduceCtorEq, reduceIte, *] <;> rfl) (fun h => ?_) (fun h => ?_) <;> try simp only [Int.ofNat_lt, Int.ofNat_le, gdV, decide_eq_true_eq, decide_eq_false_iff_not, Bool.not_eq_true', Bool.not_eq_false', reduceCtorEq, Bool.true_eq_false, Bool.false_eq_true] at h)
      | simp -implicitDefEqProofs only [go_sem, Nat.reduceLT, Nat.reduceEqDiff, Nat.reduceAdd, Nat.reduceLeDiff, Nat.reduceMul, Nat.reduceSub, Int.reduceEq, reduceCtorEq, reduceIte, *]
      | (refine swp_draw (id := 1) [.s 10, .s 22, .s 4] mixed ?_; show DW _ _ _ _ 20 (Array.replicate 20 false) _ _; refine dw_takes [0, 1, 2, 3, 4] (fuel := 15) rfl (by kernel_rfl) ?_; simp -implicitDefEqProofs only [go_sem, Nat.reduceLT, Nat.reduceEqDiff, Nat.reduceAdd, Nat.reduceLeDiff, Nat.reduceMul, Nat.reduceSub, Int.reduceEq, reduceCtorEq, reduceIte, *]; refine dw_nextA 5 (by kernel_rfl) ?_; simp -implicitDefEqProofs only [go_sem, Nat.reduceLT, Nat.reduceEqDiff, Nat.reduceAdd, Nat.reduceLeDiff, Nat.reduceMul, Nat.reduceSub, Int.reduceEq, reduceCtorEq, reduceIte, *]; (first | (refine call_view (f := .func 49) (by simp -implicitDefEqProofs only [go_sem, Nat.reduceLT, Nat.reduceEqDiff, Nat.reduceAdd, Nat.reduceLeDiff, Nat.reduceMul, Nat.reduceSub, Int.reduceEq, reduceCtorEq, reduceIte] <;> rfl) (by simp -implicitDefEqProofs only [go_sem, Nat.reduceLT, Nat.reduceEqDiff, Nat.reduceAdd, Nat.reduceLeDiff, Nat.reduceMul, Nat.reduceSub, Int.reduceEq, reduceCtorEq, reduceIte] <;> rfl) (by simp -implicitDefEqProofs only [go_sem, Nat.reduceLT, Nat.reduceEqDiff, Nat.reduceAdd, Nat.reduceLeDiff, Nat.reduceMul, Nat.reduceSub, Int.reduceEq, reduceCtorEq, reduceIte]) (by first | trivial | simp) he49 (fun E => c49 _ _ _ E) (fun sv E' hQ => ?_); subst hQ)); (try refine ⟨by simp [SV.Fresh], ?_⟩); refine dw_knowA [.s 22, .s 4] 10 (by kernel_rfl) ?_; simp -implicitDefEqProofs only [go_sem, Nat.reduceLT, Nat.reduceEqDiff, Nat.reduceAdd, Nat.reduceLeDiff, Nat.reduceMul, Nat.reduceSub, Int.reduceEq, reduceCtorEq, reduceIte, *]; refine dw_takes [6, 7, 8, 9, 10, 11, 12, 13, 14, 15, 16] (fuel := 3) rfl (by kernel_rfl) ?_; simp -implicitDefEqProofs only [go_sem, Nat.reduceLT, Nat.reduceEqDiff, Nat.reduceAdd, Nat.reduceLeDiff, Nat.reduceMul, Nat.reduceSub, Int.reduceEq, reduceCtorEq, reduceIte, *]; refine dw_nextA 17 (by kernel_rfl) ?_; simp -implicitDefEqProofs only [go_sem, Nat.reduceLT, Nat.reduceEqDiff, Nat.reduceAdd, Nat.reduceLeDiff, Nat.reduceMul, Nat.reduceSub, Int.reduceEq, reduceCtorEq, reduceIte, *]; refine dw_knowA [.s 4] 22 (by kernel_rfl) ?_; simp -implicitDefEqProofs only [go_sem, Nat.reduceLT, Nat.reduceEqDiff, Nat.reduceAdd, Nat.reduceLeDiff, Nat.reduceMul, Nat.reduceSub, Int.reduceEq, reduceCtorEq, reduceIte, *]; refine dw_takes [18] (fuel := 1) rfl (by kernel_rfl) ?_; simp -implicitDefEqProofs only [go_sem, Nat.reduceLT, Nat.reduceEqDiff, Nat.reduceAdd, Nat.reduceLeDiff, Nat.reduceMul, Nat.reduceSub, Int.reduceEq, reduceCtorEq, reduceIte, *]; refine dw_nextA 19 (by kernel_rfl) ?_; simp -implicitDefEqProofs only [go_sem, Nat.reduceLT, Nat.reduceEqDiff, Nat.reduceAdd, Nat.reduceLeDiff, Nat.reduceMul, Nat.reduceSub, Int.reduceEq, reduceCtorEq, reduceIte, *]; refine ⟨by simp, ?_⟩; refine dw_done (by kernel_rfl) ?_)
      | (refine fork_intro (fun h => ?_) (fun h => ?_) <;> try simp only [Int.ofNat_lt, Int.ofNat_le, gdV, decide_eq_true_eq, decide_eq_false_iff_not, Bool.not_eq_true', Bool.not_eq_false', reduceCtorEq, Bool.true_eq_false, Bool.false_eq_true] at h))
    all_goals exact ⟨by simp, false, rfl, by simp [hno]⟩
  have hl := smallU_at hU h1
  have hl1 := hl.2.1
  have hw2 : IntKind.i64.wrap ((u[n].bd.length : Int) - 1) = (u[n].bd.length : Int) - 1 := wrap64 (by omega) (by omega)
  have hd1 : decide (0 ≤ (n : Int)) = true := by simp
  have hd2 : decide ((n : Int) ≤ (u.length : Int) - 1) = true := by simp; omega
  have hd3 : decide (n < u.length) = true := by simp; omega
  simp only [spot_nat h1]
  have hs : (decide (0 ≤ p) && decide (p < (u[n].bd.length : Int))) = decide (0 ≤ p ∧ p < u[n].bd.length) := by rw [Bool.eq_iff_iff]; simp
  have hs2 : (decide (0 ≤ p) && decide (p ≤ (u[n].bd.length : Int) - 1)) = decide (0 ≤ p ∧ p < u[n].bd.length) := by rw [Bool.eq_iff_iff]; simp; omega
  refine AC_of_swp (n := 24) (rs := [.tmp 4]) hf70 rfl rfl rfl rfl rfl ?_
  repeat' (first
    | refine swp_seq ?_ | refine swp_region ?_ | refine swp_block ?_ | refine swp_skip ?_ | refine swp_ret ?_ | refine swp_exit ?_
    | (refine swp_cond (by simp -implicitDefEqProofs only [go_sem, Nat.reduceLT, Nat.reduceEqDiff, Nat.reduceAdd, Nat.reduceLeDiff, Nat.reduceMul, Nat.reduceSub, Int.reduceEq, reduceCtorEq, reduceIte, *] <;> rfl) (fun h => ?_) (fun h => ?_) <;> try simp only [Int.ofNat_lt, Int.ofNat_le, gdV, decide_eq_true_eq, decide_eq_false_iff_not, Bool.not_eq_true', Bool.not_eq_false', reduceCtorEq, Bool.true_eq_false, Bool.false_eq_true] at h)
    | simp -implicitDefEqProofs only [go_sem, Nat.reduceLT, Nat.reduceEqDiff, Nat.reduceAdd, Nat.reduceLeDiff, Nat.reduceMul, Nat.reduceSub, Int.reduceEq, reduceCtorEq, reduceIte, *]
    | (refine swp_draw (id := 1) [.s 10, .s 22, .s 4] mixed ?_; show DW _ _ _ _ 20 (Array.replicate 20 false) _ _; refine dw_takes [0, 1, 2, 3, 4] (fuel := 15) rfl (by kernel_rfl) ?_; simp -implicitDefEqProofs only [go_sem, Nat.reduceLT, Nat.reduceEqDiff, Nat.reduceAdd, Nat.reduceLeDiff, Nat.reduceMul, Nat.reduceSub, Int.reduceEq, reduceCtorEq, reduceIte, *]; refine dw_nextA 5 (by kernel_rfl) ?_; simp -implicitDefEqProofs only [go_sem, Nat.reduceLT, Nat.reduceEqDiff, Nat.reduceAdd, Nat.reduceLeDiff, Nat.reduceMul, Nat.reduceSub, Int.reduceEq, reduceCtorEq, reduceIte, *]; (first | (refine call_view (f := .func 49) (by simp -implicitDefEqProofs only [go_sem, Nat.reduceLT, Nat.reduceEqDiff, Nat.reduceAdd, Nat.reduceLeDiff, Nat.reduceMul, Nat.reduceSub, Int.reduceEq, reduceCtorEq, reduceIte] <;> rfl) (by simp -implicitDefEqProofs only [go_sem, Nat.reduceLT, Nat.reduceEqDiff, Nat.reduceAdd, Nat.reduceLeDiff, Nat.reduceMul, Nat.reduceSub, Int.reduceEq, reduceCtorEq, reduceIte] <;> rfl) (by simp -implicitDefEqProofs only [go_sem, Nat.reduceLT, Nat.reduceEqDiff, Nat.reduceAdd, Nat.reduceLeDiff, Nat.reduceMul, Nat.reduceSub, Int.reduceEq, reduceCtorEq, reduceIte]) (by first | trivial | simp) he49 (fun E => c49 _ _ _ E) (fun sv E' hQ => ?_); subst hQ)); (try refine ⟨by simp [SV.Fresh], ?_⟩); refine dw_knowA [.s 22, .s 4] 10 (by kernel_rfl) ?_; simp -implicitDefEqProofs only [go_sem, Nat.reduceLT, Nat.reduceEqDiff, Nat.reduceAdd, Nat.reduceLeDiff, Nat.reduceMul, Nat.reduceSub, Int.reduceEq, reduceCtorEq, reduceIte, *]; refine dw_takes [6, 7, 8, 9, 10, 11, 12, 13, 14, 15, 16] (fuel := 3) rfl (by kernel_rfl) ?_; simp -implicitDefEqProofs only [go_sem, Nat.reduceLT, Nat.reduceEqDiff, Nat.reduceAdd, Nat.reduceLeDiff, Nat.reduceMul, Nat.reduceSub, Int.reduceEq, reduceCtorEq, reduceIte, *]; refine dw_nextA 17 (by kernel_rfl) ?_; simp -implicitDefEqProofs only [go_sem, Nat.reduceLT, Nat.reduceEqDiff, Nat.reduceAdd, Nat.reduceLeDiff, Nat.reduceMul, Nat.reduceSub, Int.reduceEq, reduceCtorEq, reduceIte, *]; (first | (refine call_view (f := .func 49) (by simp -implicitDefEqProofs only [go_sem, Nat.reduceLT, Nat.reduceEqDiff, Nat.reduceAdd, Nat.reduceLeDiff, Nat.reduceMul, Nat.reduceSub, Int.reduceEq, reduceCtorEq, reduceIte] <;> rfl) (by simp -implicitDefEqProofs only [go_sem, Nat.reduceLT, Nat.reduceEqDiff, Nat.reduceAdd, Nat.reduceLeDiff, Nat.reduceMul, Nat.reduceSub, Int.reduceEq, reduceCtorEq, reduceIte] <;> rfl) (by simp -implicitDefEqProofs only [go_sem, Nat.reduceLT, Nat.reduceEqDiff, Nat.reduceAdd, Nat.reduceLeDiff, Nat.reduceMul, Nat.reduceSub, Int.reduceEq, reduceCtorEq, reduceIte]) (by first | trivial | simp) he49 (fun E => c49 _ _ _ E) (fun sv E' hQ => ?_); subst hQ)); (try refine ⟨by simp [SV.Fresh], ?_⟩); refine dw_knowA [.s 4] 22 (by kernel_rfl) ?_; simp -implicitDefEqProofs only [go_sem, Nat.reduceLT, Nat.reduceEqDiff, Nat.reduceAdd, Nat.reduceLeDiff, Nat.reduceMul, Nat.reduceSub, Int.reduceEq, reduceCtorEq, reduceIte, *]; refine dw_takes [18] (fuel := 1) rfl (by kernel_rfl) ?_; simp -implicitDefEqProofs only [go_sem, Nat.reduceLT, Nat.reduceEqDiff, Nat.reduceAdd, Nat.reduceLeDiff, Nat.reduceMul, Nat.reduceSub, Int.reduceEq, reduceCtorEq, reduceIte, *]; refine dw_nextA 19 (by kernel_rfl) ?_; simp -implicitDefEqProofs only [go_sem, Nat.reduceLT, Nat.reduceEqDiff, Nat.reduceAdd, Nat.reduceLeDiff, Nat.reduceMul, Nat.reduceSub, Int.reduceEq, reduceCtorEq, reduceIte, *]; refine ⟨by simp, ?_⟩; refine dw_done (by kernel_rfl) ?_)
    | (refine fork_intro (fun h => ?_) (fun h => ?_) <;> try simp only [Int.ofNat_lt, Int.ofNat_le, gdV, decide_eq_true_eq, decide_eq_false_iff_not, Bool.not_eq_true', Bool.not_eq_false', reduceCtorEq, Bool.true_eq_false, Bool.false_eq_true] at h))
  all_goals exact ⟨by simp, _, rfl, by simp⟩

end Go.Proofs.Ytookjkiagdkajaa
