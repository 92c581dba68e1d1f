/- Which units are kept; the first two functions that are alike. No condition. -/
import Derived.Test.YtlphbpjejdhaoaaD2
open Go Go.AI Go.Proofs
set_option maxRecDepth 100000
set_option maxHeartbeats 4000000
set_option linter.unusedSimpArgs false
set_option linter.unusedVariables false
namespace Go.Proofs.Ytlphbpjejdhaoaa
attribute [local irreducible] awpOps opA callA Then Fork SWP

def keepOk (u : List F) : Bool := (decide ((1:Int) ≤ u.length) && decide ((u.length:Int) ≤ 40)) && (namesOk u && decide (lackU u u.length = []))

theorem c61 (u : List F) (hU : smallU u) (E) : AC Try.prog 11 [.one (.sl false 3 (u.map fc))] E (fun sv _ => sv = .one (.lit (.bool (keepOk u)))) := by
  have h0 : ((ordB (lackU u u.length)).length : Int) = 0 ↔ lackU u u.length = [] := by
    rw [← ordB_nil_iff, ← List.length_eq_zero_iff]; omega
  refine AC_of_swp (n := 16) (rs := [.tmp 2]) hf11 rfl rfl rfl rfl rfl ?_
  repeat' (first
    | refine swp_seq ?_ | refine swp_region ?_ | refine swp_block ?_ | refine swp_skip ?_ | refine swp_ret ?_ | refine swp_exit ?_
    | (refine swp_cond (by simp -implicitDefEqProofs only [go_sem, Nat.reduceLT, Nat.reduceEqDiff, Nat.reduceAdd, Nat.reduceLeDiff, Nat.reduceMul, Nat.reduceSub, Int.reduceEq, reduceCtorEq, reduceIte, *] <;> rfl) (fun h => ?_) (fun h => ?_) <;> try simp only [Int.ofNat_lt, Int.ofNat_le, gdV, decide_eq_true_eq, decide_eq_false_iff_not, Bool.not_eq_true', Bool.not_eq_false', reduceCtorEq, Bool.true_eq_false, Bool.false_eq_true] at h)
    | simp -implicitDefEqProofs only [go_sem, Nat.reduceLT, Nat.reduceEqDiff, Nat.reduceAdd, Nat.reduceLeDiff, Nat.reduceMul, Nat.reduceSub, Int.reduceEq, reduceCtorEq, reduceIte, *]
    | (refine call_view (f := .func 36) (by simp -implicitDefEqProofs only [go_sem, Nat.reduceLT, Nat.reduceEqDiff, Nat.reduceAdd, Nat.reduceLeDiff, Nat.reduceMul, Nat.reduceSub, Int.reduceEq, reduceCtorEq, reduceIte] <;> rfl) (by simp -implicitDefEqProofs only [go_sem, Nat.reduceLT, Nat.reduceEqDiff, Nat.reduceAdd, Nat.reduceLeDiff, Nat.reduceMul, Nat.reduceSub, Int.reduceEq, reduceCtorEq, reduceIte] <;> rfl) (by simp -implicitDefEqProofs only [go_sem, Nat.reduceLT, Nat.reduceEqDiff, Nat.reduceAdd, Nat.reduceLeDiff, Nat.reduceMul, Nat.reduceSub, Int.reduceEq, reduceCtorEq, reduceIte]) (by first | trivial | simp) he36 (fun E => c49 _ _ _ E) (fun sv E' hQ => ?_); subst hQ)
    | (refine call_view (f := .func 37) (by simp -implicitDefEqProofs only [go_sem, Nat.reduceLT, Nat.reduceEqDiff, Nat.reduceAdd, Nat.reduceLeDiff, Nat.reduceMul, Nat.reduceSub, Int.reduceEq, reduceCtorEq, reduceIte] <;> rfl) (by simp -implicitDefEqProofs only [go_sem, Nat.reduceLT, Nat.reduceEqDiff, Nat.reduceAdd, Nat.reduceLeDiff, Nat.reduceMul, Nat.reduceSub, Int.reduceEq, reduceCtorEq, reduceIte] <;> rfl) (by simp -implicitDefEqProofs only [go_sem, Nat.reduceLT, Nat.reduceEqDiff, Nat.reduceAdd, Nat.reduceLeDiff, Nat.reduceMul, Nat.reduceSub, Int.reduceEq, reduceCtorEq, reduceIte]) (by first | trivial | simp) he37 (fun E => c91 _ hU E) (fun sv E' hQ => ?_); subst hQ)
    | (refine call_view (f := .func 38) (by simp -implicitDefEqProofs only [go_sem, Nat.reduceLT, Nat.reduceEqDiff, Nat.reduceAdd, Nat.reduceLeDiff, Nat.reduceMul, Nat.reduceSub, Int.reduceEq, reduceCtorEq, reduceIte] <;> rfl) (by simp -implicitDefEqProofs only [go_sem, Nat.reduceLT, Nat.reduceEqDiff, Nat.reduceAdd, Nat.reduceLeDiff, Nat.reduceMul, Nat.reduceSub, Int.reduceEq, reduceCtorEq, reduceIte] <;> rfl) (by simp -implicitDefEqProofs only [go_sem, Nat.reduceLT, Nat.reduceEqDiff, Nat.reduceAdd, Nat.reduceLeDiff, Nat.reduceMul, Nat.reduceSub, Int.reduceEq, reduceCtorEq, reduceIte]) (by first | trivial | simp) he38 (fun E => c92 _ hU E) (fun sv E' hQ => ?_); subst hQ; refine ⟨by simp [SV.Fresh, -fresh_sl, -List.map_map, frss], ?_⟩)
    | (refine fork_intro (fun h => ?_) (fun h => ?_) <;> try simp only [Int.ofNat_lt, Int.ofNat_le, gdV, decide_eq_true_eq, decide_eq_false_iff_not, Bool.not_eq_true', Bool.not_eq_false', reduceCtorEq, Bool.true_eq_false, Bool.false_eq_true] at h))
  all_goals (refine ⟨by simp, ?_⟩; simp [keepOk, *])

theorem lack_hit {u : List F} {i k : Nat} (h : i < u.length) (hk : k < (refsN u[i].bd).length) (h2 : findN u (refsN u[i].bd)[k] < 0) : lackU u u.length ≠ [] := by
  intro e
  rw [lackU, List.take_length, List.flatMap_eq_nil_iff] at e
  have := e u[i] (List.getElem_mem h)
  rw [List.filter_eq_nil_iff] at this
  exact this _ (List.getElem_mem hk) (by simpa [lk] using h2)
theorem lack_none {u : List F} (h : ∀ i (hi : i < u.length) k (hk : k < (refsN u[i].bd).length), ¬ findN u (refsN u[i].bd)[k] < 0) : lackU u u.length = [] := by
  rw [lackU, List.take_length, List.flatMap_eq_nil_iff]
  intro f hf
  obtain ⟨i, hi, rfl⟩ := List.getElem_of_mem hf
  rw [List.filter_eq_nil_iff]
  intro r hr
  obtain ⟨k, hk, rfl⟩ := List.getElem_of_mem hr
  simpa [lk] using h i hi k hk

theorem c59 (u : List F) (hU : smallU u) (E) : AC Try.prog 12 [.one (.sl false 3 (u.map fc))] E (fun sv _ => sv = .one (.lit (.bool (keepOk u)))) := by
  have hu := hU.1
  refine AC_of_swp (n := 63) (rs := [.tmp 2]) hf12 rfl rfl rfl rfl rfl ?_
  repeat' (first
    | refine swp_seq ?_ | refine swp_region ?_ | refine swp_block ?_ | refine swp_skip ?_ | refine swp_ret ?_ | refine swp_exit ?_
    | (refine swp_cond (by simp -implicitDefEqProofs only [go_sem, Nat.reduceLT, Nat.reduceEqDiff, Nat.reduceAdd, Nat.reduceLeDiff, Nat.reduceMul, Nat.reduceSub, Int.reduceEq, reduceCtorEq, reduceIte, *] <;> rfl) (fun h => ?_) (fun h => ?_) <;> try simp only [Int.ofNat_lt, Int.ofNat_le, gdV, decide_eq_true_eq, decide_eq_false_iff_not, Bool.not_eq_true', Bool.not_eq_false', reduceCtorEq, Bool.true_eq_false, Bool.false_eq_true] at h)
    | simp -implicitDefEqProofs only [go_sem, Nat.reduceLT, Nat.reduceEqDiff, Nat.reduceAdd, Nat.reduceLeDiff, Nat.reduceMul, Nat.reduceSub, Int.reduceEq, reduceCtorEq, reduceIte, *]
    | (refine fork_intro (fun h => ?_) (fun h => ?_) <;> try simp only [Int.ofNat_lt, Int.ofNat_le, gdV, decide_eq_true_eq, decide_eq_false_iff_not, Bool.not_eq_true', Bool.not_eq_false', reduceCtorEq, Bool.true_eq_false, Bool.false_eq_true] at h))
  all_goals first | (refine ⟨by simp, ?_⟩; simp [keepOk, *]; done) | (refine ⟨by simp, ?_⟩; simp [keepOk, *]; omega) | skip
  rename_i q1
  have q2 := h
  refine swp_loop (ι := { i : Nat // i ≤ u.length ∧ ∀ j, j < i → okAt u j = true }) (fun i => fr 63 [.one (.sl false 3 (u.map fc)), .none, .one (.lit (.bool false)), .one (.lit (.int .i64 (i.1 : Int)))] [])
    (fun i => u.length - i.1) ⟨0, Nat.zero_le _, fun j hj => by omega⟩ ?_ ?_
  · refine le_fr ?_ ?_ ?_ ?_ <;> simp -implicitDefEqProofs only [go_sem, Nat.reduceLT, Nat.reduceEqDiff, Nat.reduceAdd, Nat.reduceLeDiff, Nat.reduceMul, Nat.reduceSub, Int.reduceEq, reduceCtorEq, reduceIte, *] <;> first | rfl | (rw [wrap64 (by omega) (by omega)]; rfl) | (simp; done) | exact ⟨rfl, rfl⟩ | (refine ⟨rfl, ?_⟩; rw [wrap64 (by omega) (by omega)]; rfl)
  rintro ⟨i, hi, hlow⟩
  have hg := fun h => smallU_at hU (i := i) h
  repeat' (first
    | refine swp_seq ?_ | refine swp_region ?_ | refine swp_block ?_ | refine swp_skip ?_ | refine swp_ret ?_ | refine swp_exit ?_
    | (refine swp_cond (by simp -implicitDefEqProofs only [go_sem, Nat.reduceLT, Nat.reduceEqDiff, Nat.reduceAdd, Nat.reduceLeDiff, Nat.reduceMul, Nat.reduceSub, Int.reduceEq, reduceCtorEq, reduceIte, *] <;> rfl) (fun h => ?_) (fun h => ?_) <;> try simp only [Int.ofNat_lt, Int.ofNat_le, gdV, decide_eq_true_eq, decide_eq_false_iff_not, Bool.not_eq_true', Bool.not_eq_false', reduceCtorEq, Bool.true_eq_false, Bool.false_eq_true] at h)
    | simp -implicitDefEqProofs only [go_sem, Nat.reduceLT, Nat.reduceEqDiff, Nat.reduceAdd, Nat.reduceLeDiff, Nat.reduceMul, Nat.reduceSub, Int.reduceEq, reduceCtorEq, reduceIte, *]
    | (refine call_view (f := .func 39) (by simp -implicitDefEqProofs only [go_sem, Nat.reduceLT, Nat.reduceEqDiff, Nat.reduceAdd, Nat.reduceLeDiff, Nat.reduceMul, Nat.reduceSub, Int.reduceEq, reduceCtorEq, reduceIte] <;> rfl) (by simp -implicitDefEqProofs only [go_sem, Nat.reduceLT, Nat.reduceEqDiff, Nat.reduceAdd, Nat.reduceLeDiff, Nat.reduceMul, Nat.reduceSub, Int.reduceEq, reduceCtorEq, reduceIte] <;> rfl) (by simp -implicitDefEqProofs only [go_sem, Nat.reduceLT, Nat.reduceEqDiff, Nat.reduceAdd, Nat.reduceLeDiff, Nat.reduceMul, Nat.reduceSub, Int.reduceEq, reduceCtorEq, reduceIte]) (by first | trivial | simp) he39 (fun E => c13 _ _ _ (hg (by assumption)).1 (hg (by assumption)).2 E) (fun sv E' hQ => ?_); subst hQ)
    | (refine call_view (f := .func 40) (by simp -implicitDefEqProofs only [go_sem, Nat.reduceLT, Nat.reduceEqDiff, Nat.reduceAdd, Nat.reduceLeDiff, Nat.reduceMul, Nat.reduceSub, Int.reduceEq, reduceCtorEq, reduceIte] <;> rfl) (by simp -implicitDefEqProofs only [go_sem, Nat.reduceLT, Nat.reduceEqDiff, Nat.reduceAdd, Nat.reduceLeDiff, Nat.reduceMul, Nat.reduceSub, Int.reduceEq, reduceCtorEq, reduceIte] <;> rfl) (by simp -implicitDefEqProofs only [go_sem, Nat.reduceLT, Nat.reduceEqDiff, Nat.reduceAdd, Nat.reduceLeDiff, Nat.reduceMul, Nat.reduceSub, Int.reduceEq, reduceCtorEq, reduceIte]) (by first | trivial | simp) he40 (fun E => c88 _ _ hu E) (fun sv E' hQ => ?_); subst hQ)
    | (refine fork_intro (fun h => ?_) (fun h => ?_) <;> try simp only [Int.ofNat_lt, Int.ofNat_le, gdV, decide_eq_true_eq, decide_eq_false_iff_not, Bool.not_eq_true', Bool.not_eq_false', reduceCtorEq, Bool.true_eq_false, Bool.false_eq_true] at h))
  all_goals first | (refine ⟨by simp, ?_⟩; simp [keepOk, namesOk_no (i := i) (by assumption) (by simp [okAt, *])]; done) | skip
  · rename_i h1 _ _
    refine ⟨⟨i + 1, h1, fun j hj => ?_⟩, by show u.length - (i + 1) < u.length - i; omega, ?_⟩
    · rcases Nat.lt_or_ge j i with h' | h'
      · exact hlow j h'
      · have : j = i := by omega
        subst this; simp [okAt, *]
    · refine le_fr ?_ ?_ ?_ ?_ <;> simp -implicitDefEqProofs only [go_sem, Nat.reduceLT, Nat.reduceEqDiff, Nat.reduceAdd, Nat.reduceLeDiff, Nat.reduceMul, Nat.reduceSub, Int.reduceEq, reduceCtorEq, reduceIte, *] <;> first | rfl | (rw [wrap64 (by omega) (by omega)]; rfl) | (simp; done) | exact ⟨rfl, rfl⟩ | (refine ⟨rfl, ?_⟩; rw [wrap64 (by omega) (by omega)]; rfl)
  have hnm : namesOk u = true := namesOk_yes fun j hj => hlow j (by omega)
  clear hg hlow
  refine swp_loop (ι := { i : Nat // i ≤ u.length ∧ ∀ j (hj : j < u.length), j < i → ∀ k (hk : k < (refsN u[j].bd).length), ¬ findN u (refsN u[j].bd)[k] < 0 }) (fun i => fr 63 [.one (.sl false 3 (u.map fc)), .none, .one (.lit (.bool false)), .none, .one (.lit (.int .i64 (i.1 : Int)))] [])
    (fun i => u.length - i.1) ⟨0, Nat.zero_le _, fun j hj hj0 => by omega⟩ ?_ ?_
  · refine le_fr ?_ ?_ ?_ ?_ <;> simp -implicitDefEqProofs only [go_sem, Nat.reduceLT, Nat.reduceEqDiff, Nat.reduceAdd, Nat.reduceLeDiff, Nat.reduceMul, Nat.reduceSub, Int.reduceEq, reduceCtorEq, reduceIte, *] <;> first | rfl | (rw [wrap64 (by omega) (by omega)]; rfl) | (simp; done) | exact ⟨rfl, rfl⟩ | (refine ⟨rfl, ?_⟩; rw [wrap64 (by omega) (by omega)]; rfl)
  rintro ⟨i2, hi2, hlow⟩
  rcases Nat.lt_or_ge i2 u.length with hlt | hge
  case inr =>
    have hn : ¬ i2 < u.length := by omega
    repeat' (first
      | refine swp_seq ?_ | refine swp_region ?_ | refine swp_block ?_ | refine swp_skip ?_ | refine swp_ret ?_ | refine swp_exit ?_
      | (refine swp_cond (by simp -implicitDefEqProofs only [go_sem, Nat.reduceLT, Nat.reduceEqDiff, Nat.reduceAdd, Nat.reduceLeDiff, Nat.reduceMul, Nat.reduceSub, Int.reduceEq, reduceCtorEq, reduceIte, *] <;> rfl) (fun h => ?_) (fun h => ?_) <;> try simp only [Int.ofNat_lt, Int.ofNat_le, gdV, decide_eq_true_eq, decide_eq_false_iff_not, Bool.not_eq_true', Bool.not_eq_false', reduceCtorEq, Bool.true_eq_false, Bool.false_eq_true] at h)
      | simp -implicitDefEqProofs only [go_sem, Nat.reduceLT, Nat.reduceEqDiff, Nat.reduceAdd, Nat.reduceLeDiff, Nat.reduceMul, Nat.reduceSub, Int.reduceEq, reduceCtorEq, reduceIte, *]
      | (refine fork_intro (fun h => ?_) (fun h => ?_) <;> try simp only [Int.ofNat_lt, Int.ofNat_le, gdV, decide_eq_true_eq, decide_eq_false_iff_not, Bool.not_eq_true', Bool.not_eq_false', reduceCtorEq, Bool.true_eq_false, Bool.false_eq_true] at h))
    refine ⟨by simp, ?_⟩
    have := lack_none fun j hj k hk => hlow j hj (by omega) k hk
    simp [keepOk, hnm, this]; omega
  have hgb := smallU_at hU hlt
  have hrs := refsN_small hU hlt
  have hhit := fun k hk h2 => lack_hit (u := u) (k := k) hlt hk h2
  have hcur : ∀ j (hj : j < u.length), j < i2 + 1 → (j = i2 → ∀ k (hk : k < (refsN u[i2].bd).length), ¬ findN u (refsN u[i2].bd)[k] < 0) → ∀ k (hk : k < (refsN u[j].bd).length), ¬ findN u (refsN u[j].bd)[k] < 0 := fun j hj hji h => by
    rcases Nat.lt_or_ge j i2 with h' | h'
    · exact hlow j hj h'
    · have : j = i2 := by omega
      subst this; exact h rfl
  simp only
  clear hlow
  generalize hrr : refsN u[i2].bd = r at *
  repeat' (first
    | refine swp_seq ?_ | refine swp_region ?_ | refine swp_block ?_ | refine swp_skip ?_ | refine swp_ret ?_ | refine swp_exit ?_
    | (refine swp_cond (by simp -implicitDefEqProofs only [go_sem, Nat.reduceLT, Nat.reduceEqDiff, Nat.reduceAdd, Nat.reduceLeDiff, Nat.reduceMul, Nat.reduceSub, Int.reduceEq, reduceCtorEq, reduceIte, *] <;> rfl) (fun h => ?_) (fun h => ?_) <;> try simp only [Int.ofNat_lt, Int.ofNat_le, gdV, decide_eq_true_eq, decide_eq_false_iff_not, Bool.not_eq_true', Bool.not_eq_false', reduceCtorEq, Bool.true_eq_false, Bool.false_eq_true] at h)
    | simp -implicitDefEqProofs only [go_sem, Nat.reduceLT, Nat.reduceEqDiff, Nat.reduceAdd, Nat.reduceLeDiff, Nat.reduceMul, Nat.reduceSub, Int.reduceEq, reduceCtorEq, reduceIte, *]
    | (refine call_view (f := .func 41) (by simp -implicitDefEqProofs only [go_sem, Nat.reduceLT, Nat.reduceEqDiff, Nat.reduceAdd, Nat.reduceLeDiff, Nat.reduceMul, Nat.reduceSub, Int.reduceEq, reduceCtorEq, reduceIte] <;> rfl) (by simp -implicitDefEqProofs only [go_sem, Nat.reduceLT, Nat.reduceEqDiff, Nat.reduceAdd, Nat.reduceLeDiff, Nat.reduceMul, Nat.reduceSub, Int.reduceEq, reduceCtorEq, reduceIte] <;> rfl) (by simp -implicitDefEqProofs only [go_sem, Nat.reduceLT, Nat.reduceEqDiff, Nat.reduceAdd, Nat.reduceLeDiff, Nat.reduceMul, Nat.reduceSub, Int.reduceEq, reduceCtorEq, reduceIte]) (by first | trivial | simp) he41 (fun E => c89 _ hgb.2.1 E) (fun sv E' hQ => ?_); subst hQ; refine ⟨by simp [SV.Fresh, -fresh_sl, -List.map_map, frss], ?_⟩)
    | (refine fork_intro (fun h => ?_) (fun h => ?_) <;> try simp only [Int.ofNat_lt, Int.ofNat_le, gdV, decide_eq_true_eq, decide_eq_false_iff_not, Bool.not_eq_true', Bool.not_eq_false', reduceCtorEq, Bool.true_eq_false, Bool.false_eq_true] at h))
  refine swp_loop (ι := { k : Nat // k ≤ r.length ∧ ∀ j (hj : j < r.length), j < k → ¬ findN u r[j] < 0 }) (fun k => fr 63 [.one (.sl false 3 (u.map fc)), .none, .one (.lit (.bool false)), .none, .one (.lit (.int .i64 (i2 : Int))), .one (.sl true 1 (r.map strRow)), .one (.lit (.int .i64 (k.1 : Int)))] [])
    (fun k => r.length - k.1) ⟨0, Nat.zero_le _, fun j hj hj0 => by omega⟩ ?_ ?_
  · refine le_fr ?_ ?_ ?_ ?_ <;> simp -implicitDefEqProofs only [go_sem, Nat.reduceLT, Nat.reduceEqDiff, Nat.reduceAdd, Nat.reduceLeDiff, Nat.reduceMul, Nat.reduceSub, Int.reduceEq, reduceCtorEq, reduceIte, *] <;> first | rfl | (rw [wrap64 (by omega) (by omega)]; rfl) | (simp; done) | exact ⟨rfl, rfl⟩ | (refine ⟨rfl, ?_⟩; rw [wrap64 (by omega) (by omega)]; rfl)
  rintro ⟨k, hk, hlk⟩
  have hend : ¬ k < r.length → ∀ j (hj : j < u.length), j < i2 + 1 → ∀ k (hk : k < (refsN u[j].bd).length), ¬ findN u (refsN u[j].bd)[k] < 0 := fun h j hj hji => hcur j hj hji fun _ k' hk' => hlk k' hk' (by omega)
  clear hcur
  repeat' (first
    | refine swp_seq ?_ | refine swp_region ?_ | refine swp_block ?_ | refine swp_skip ?_ | refine swp_ret ?_ | refine swp_exit ?_
    | (refine swp_cond (by simp -implicitDefEqProofs only [go_sem, Nat.reduceLT, Nat.reduceEqDiff, Nat.reduceAdd, Nat.reduceLeDiff, Nat.reduceMul, Nat.reduceSub, Int.reduceEq, reduceCtorEq, reduceIte, *] <;> rfl) (fun h => ?_) (fun h => ?_) <;> try simp only [Int.ofNat_lt, Int.ofNat_le, gdV, decide_eq_true_eq, decide_eq_false_iff_not, Bool.not_eq_true', Bool.not_eq_false', reduceCtorEq, Bool.true_eq_false, Bool.false_eq_true] at h)
    | simp -implicitDefEqProofs only [go_sem, Nat.reduceLT, Nat.reduceEqDiff, Nat.reduceAdd, Nat.reduceLeDiff, Nat.reduceMul, Nat.reduceSub, Int.reduceEq, reduceCtorEq, reduceIte, *]
    | (refine call_view (f := .func 40) (by simp -implicitDefEqProofs only [go_sem, Nat.reduceLT, Nat.reduceEqDiff, Nat.reduceAdd, Nat.reduceLeDiff, Nat.reduceMul, Nat.reduceSub, Int.reduceEq, reduceCtorEq, reduceIte] <;> rfl) (by simp -implicitDefEqProofs only [go_sem, Nat.reduceLT, Nat.reduceEqDiff, Nat.reduceAdd, Nat.reduceLeDiff, Nat.reduceMul, Nat.reduceSub, Int.reduceEq, reduceCtorEq, reduceIte] <;> rfl) (by simp -implicitDefEqProofs only [go_sem, Nat.reduceLT, Nat.reduceEqDiff, Nat.reduceAdd, Nat.reduceLeDiff, Nat.reduceMul, Nat.reduceSub, Int.reduceEq, reduceCtorEq, reduceIte]) (by first | trivial | simp) he40 (fun E => c88 _ _ hu E) (fun sv E' hQ => ?_); subst hQ)
    | (refine fork_intro (fun h => ?_) (fun h => ?_) <;> try simp only [Int.ofNat_lt, Int.ofNat_le, gdV, decide_eq_true_eq, decide_eq_false_iff_not, Bool.not_eq_true', Bool.not_eq_false', reduceCtorEq, Bool.true_eq_false, Bool.false_eq_true] at h))
  · rename_i h9
    refine ⟨by simp, ?_⟩
    have := hhit k h9 h
    simp [keepOk, this]
  · rename_i h9
    refine ⟨⟨k + 1, h9, fun j hj hjk => ?_⟩, by show r.length - (k + 1) < r.length - k; omega, ?_⟩
    · rcases Nat.lt_or_ge j k with h' | h'
      · exact hlk j hj h'
      · have : j = k := by omega
        subst this; exact h
    · refine le_fr ?_ ?_ ?_ ?_ <;> simp -implicitDefEqProofs only [go_sem, Nat.reduceLT, Nat.reduceEqDiff, Nat.reduceAdd, Nat.reduceLeDiff, Nat.reduceMul, Nat.reduceSub, Int.reduceEq, reduceCtorEq, reduceIte, *] <;> first | rfl | (rw [wrap64 (by omega) (by omega)]; rfl) | (simp; done) | exact ⟨rfl, rfl⟩ | (refine ⟨rfl, ?_⟩; rw [wrap64 (by omega) (by omega)]; rfl)
  · refine ⟨⟨i2 + 1, hlt, hend h⟩, by show u.length - (i2 + 1) < u.length - i2; omega, ?_⟩
    refine le_fr ?_ ?_ ?_ ?_ <;> simp -implicitDefEqProofs only [go_sem, Nat.reduceLT, Nat.reduceEqDiff, Nat.reduceAdd, Nat.reduceLeDiff, Nat.reduceMul, Nat.reduceSub, Int.reduceEq, reduceCtorEq, reduceIte, *] <;> first | rfl | (rw [wrap64 (by omega) (by omega)]; rfl) | (simp; done) | exact ⟨rfl, rfl⟩ | (refine ⟨rfl, ?_⟩; rw [wrap64 (by omega) (by omega)]; rfl)

end Go.Proofs.Ytlphbpjejdhaoaa
