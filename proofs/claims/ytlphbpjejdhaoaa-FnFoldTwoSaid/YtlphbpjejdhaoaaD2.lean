/- What is lacking; which units are well formed. No condition. -/
import Derived.Test.YtlphbpjejdhaoaaShelf
import Derived.Test.YtlphbpjejdhaoaaD1
open Go Go.AI Go.Proofs
set_option maxRecDepth 100000
set_option maxHeartbeats 4000000
set_option linter.unusedSimpArgs false
set_option linter.unusedVariables false
namespace Go.Proofs.Ytlphbpjejdhaoaa
attribute [local irreducible] awpOps opA callA Then Fork SWP

theorem sortC : SortC Try.prog 98 := ⟨fun blk off cap ss w h1 h2 h3 => Try.slices_Sort_string blk off cap ss w h1 h2 h3, fun p cap w => Try.slices_Sort_string_none p cap w⟩
theorem compC : CompC Try.prog 99 := ⟨fun blk off cap ss w h1 h2 h3 => Try.slices_Compact_string blk off cap ss w h1 h2 h3, fun p cap w => Try.slices_Compact_string_empty p cap w⟩

theorem compB_le (ss : List ByteArray) : (compB ss).length ≤ ss.length := by
  simp only [compB, Lib.compact, Lib.compactUpTo, List.length_map]
  refine Nat.le_trans (List.length_filter_le _ _) (by simp)
theorem compB_nil {ss : List ByteArray} (h : compB ss = []) : ss = [] := by
  cases ss with
  | nil => rfl
  | cons s ss =>
    simp only [compB, Lib.compact, Lib.compactUpTo, List.map_eq_nil_iff, List.filter_eq_nil_iff, List.mem_range, List.length_map, List.length_cons] at h
    exact absurd (show Lib.keeps _ 0 = true by simp [Lib.keeps]) (h 0 (by omega))
def ordB (ss : List ByteArray) : List ByteArray := compB (sortB ss)
theorem ordB_nil_iff {ss : List ByteArray} : ordB ss = [] ↔ ss = [] := by
  constructor
  · intro h
    have := compB_nil h
    have h2 := sortB_len ss
    rw [this] at h2
    exact List.length_eq_zero_iff.1 h2.symm
  · rintro rfl
    have : sortB [] = [] := List.length_eq_zero_iff.1 (by rw [sortB_len]; rfl)
    rw [ordB, this]
    exact List.length_eq_zero_iff.1 (Nat.le_zero.1 (compB_le []))
theorem ordB_le (ss : List ByteArray) : (ordB ss).length ≤ ss.length := by
  have := compB_le (sortB ss)
  rw [sortB_len] at this; exact this

theorem c102 (ss : List ByteArray) (hs : ss.length ≤ 1099511627776) (E) (hE : E 100000 = some (false, [.sl true 1 (ss.map strRow)])) : AC Try.prog 70 [.one (.bor (.v 100000) [(0, 0)] 0 none)] E
    (fun sv E' => sv = .one (.sl true 1 ((ordB ss).map strRow)) ∧ ∃ xs : List ByteArray, E' 100000 = some (false, [.sl true 1 (xs.map strRow)])) := by
  have hle := ordB_le ss
  have hcl := compB_le (sortB ss)
  have htake : (List.take (compB (sortB ss)).length ((compB (sortB ss) ++ List.replicate ((sortB ss).length - (compB (sortB ss)).length) (⟨#[]⟩ : ByteArray)).map strRow)) = (compB (sortB ss)).map strRow := by
    rw [List.map_append]; simp [List.take_append_of_le_length]
  have hlen : (compB (sortB ss)).length ≤ (compB (sortB ss) ++ List.replicate ((sortB ss).length - (compB (sortB ss)).length) (⟨#[]⟩ : ByteArray)).length := by simp
  have hA : (compB (sortB ss)).length * 16 ≤ 140737488355328 := by have := ordB_le ss; rw [ordB] at this; omega
  have hB : (compB (sortB ss)).length ≤ 9223372036854775807 := by have := ordB_le ss; rw [ordB] at this; omega
  refine AC_of_swp (n := 8) (rs := [.tmp 2]) hf70 rfl rfl rfl rfl rfl ?_
  repeat' (first
    | refine swp_seq ?_ | refine swp_region ?_ | refine swp_block ?_ | refine swp_skip ?_ | refine swp_ret ?_ | refine swp_exit ?_
    | (refine swp_cond (by simp -implicitDefEqProofs only [go_sem, Nat.reduceLT, Nat.reduceEqDiff, Nat.reduceAdd, Nat.reduceLeDiff, Nat.reduceMul, Nat.reduceSub, Int.reduceEq, reduceCtorEq, reduceIte, *] <;> rfl) (fun h => ?_) (fun h => ?_) <;> try simp only [Int.ofNat_lt, Int.ofNat_le, gdV, decide_eq_true_eq, decide_eq_false_iff_not, Bool.not_eq_true', Bool.not_eq_false', reduceCtorEq, Bool.true_eq_false, Bool.false_eq_true] at h)
    | simp -implicitDefEqProofs only [go_sem, Nat.reduceLT, Nat.reduceEqDiff, Nat.reduceAdd, Nat.reduceLeDiff, Nat.reduceMul, Nat.reduceSub, Int.reduceEq, reduceCtorEq, reduceIte, *]
    | (refine call_sort (g := 98) (f := .func 98) (by simp -implicitDefEqProofs only [go_sem, Nat.reduceLT, Nat.reduceEqDiff, Nat.reduceAdd, Nat.reduceLeDiff, Nat.reduceMul, Nat.reduceSub, Int.reduceEq, reduceCtorEq, reduceIte] <;> rfl) (by simp -implicitDefEqProofs only [go_sem, Nat.reduceLT, Nat.reduceEqDiff, Nat.reduceAdd, Nat.reduceLeDiff, Nat.reduceMul, Nat.reduceSub, Int.reduceEq, reduceCtorEq, reduceIte] <;> rfl) (by simp -implicitDefEqProofs only [go_sem, Nat.reduceLT, Nat.reduceEqDiff, Nat.reduceAdd, Nat.reduceLeDiff, Nat.reduceMul, Nat.reduceSub, Int.reduceEq, reduceCtorEq, reduceIte]) (by simp -implicitDefEqProofs only [go_sem, Nat.reduceLT, Nat.reduceEqDiff, Nat.reduceAdd, Nat.reduceLeDiff, Nat.reduceMul, Nat.reduceSub, Int.reduceEq, reduceCtorEq, reduceIte, *] <;> rfl) (by simp -implicitDefEqProofs only [go_sem, Nat.reduceLT, Nat.reduceEqDiff, Nat.reduceAdd, Nat.reduceLeDiff, Nat.reduceMul, Nat.reduceSub, Int.reduceEq, reduceCtorEq, reduceIte]) (by simp) trivial trivial he98 sortC (by omega) ?_)
    | (refine call_compact (g := 99) (f := .func 99) (ss := sortB ss) (by simp -implicitDefEqProofs only [go_sem, Nat.reduceLT, Nat.reduceEqDiff, Nat.reduceAdd, Nat.reduceLeDiff, Nat.reduceMul, Nat.reduceSub, Int.reduceEq, reduceCtorEq, reduceIte] <;> rfl) (by simp -implicitDefEqProofs only [go_sem, Nat.reduceLT, Nat.reduceEqDiff, Nat.reduceAdd, Nat.reduceLeDiff, Nat.reduceMul, Nat.reduceSub, Int.reduceEq, reduceCtorEq, reduceIte] <;> rfl) (by simp -implicitDefEqProofs only [go_sem, Nat.reduceLT, Nat.reduceEqDiff, Nat.reduceAdd, Nat.reduceLeDiff, Nat.reduceMul, Nat.reduceSub, Int.reduceEq, reduceCtorEq, reduceIte]) (by simp -implicitDefEqProofs only [go_sem, Nat.reduceLT, Nat.reduceEqDiff, Nat.reduceAdd, Nat.reduceLeDiff, Nat.reduceMul, Nat.reduceSub, Int.reduceEq, reduceCtorEq, reduceIte, *] <;> rfl) (by simp -implicitDefEqProofs only [go_sem, Nat.reduceLT, Nat.reduceEqDiff, Nat.reduceAdd, Nat.reduceLeDiff, Nat.reduceMul, Nat.reduceSub, Int.reduceEq, reduceCtorEq, reduceIte]) (by simp) trivial trivial he99 compC (by rw [sortB_len]; omega) (compB_le _) ?_)
    | (refine fork_intro (fun h => ?_) (fun h => ?_) <;> try simp only [Int.ofNat_lt, Int.ofNat_le, gdV, decide_eq_true_eq, decide_eq_false_iff_not, Bool.not_eq_true', Bool.not_eq_false', reduceCtorEq, Bool.true_eq_false, Bool.false_eq_true] at h))
  exact ⟨by simp, rfl, _, rfl⟩

theorem c102n (E) : AC Try.prog 70 [.one .nil] E (fun sv _ => sv = .one (.sl true 1 [])) := by
  refine AC_of_swp (n := 8) (rs := [.tmp 2]) hf70 rfl rfl rfl rfl rfl ?_
  repeat' (first
    | refine swp_seq ?_ | refine swp_region ?_ | refine swp_block ?_ | refine swp_skip ?_ | refine swp_ret ?_ | refine swp_exit ?_
    | (refine swp_cond (by simp -implicitDefEqProofs only [go_sem, Nat.reduceLT, Nat.reduceEqDiff, Nat.reduceAdd, Nat.reduceLeDiff, Nat.reduceMul, Nat.reduceSub, Int.reduceEq, reduceCtorEq, reduceIte, *] <;> rfl) (fun h => ?_) (fun h => ?_) <;> try simp only [Int.ofNat_lt, Int.ofNat_le, gdV, decide_eq_true_eq, decide_eq_false_iff_not, Bool.not_eq_true', Bool.not_eq_false', reduceCtorEq, Bool.true_eq_false, Bool.false_eq_true] at h)
    | simp -implicitDefEqProofs only [go_sem, Nat.reduceLT, Nat.reduceEqDiff, Nat.reduceAdd, Nat.reduceLeDiff, Nat.reduceMul, Nat.reduceSub, Int.reduceEq, reduceCtorEq, reduceIte, *]
    | (refine call_sort_nil (g := 98) (f := .func 98) (by simp -implicitDefEqProofs only [go_sem, Nat.reduceLT, Nat.reduceEqDiff, Nat.reduceAdd, Nat.reduceLeDiff, Nat.reduceMul, Nat.reduceSub, Int.reduceEq, reduceCtorEq, reduceIte] <;> rfl) (by simp -implicitDefEqProofs only [go_sem, Nat.reduceLT, Nat.reduceEqDiff, Nat.reduceAdd, Nat.reduceLeDiff, Nat.reduceMul, Nat.reduceSub, Int.reduceEq, reduceCtorEq, reduceIte] <;> rfl) (by simp -implicitDefEqProofs only [go_sem, Nat.reduceLT, Nat.reduceEqDiff, Nat.reduceAdd, Nat.reduceLeDiff, Nat.reduceMul, Nat.reduceSub, Int.reduceEq, reduceCtorEq, reduceIte]) trivial he98 sortC ?_)
    | (refine call_compact_nil (g := 99) (f := .func 99) (by simp -implicitDefEqProofs only [go_sem, Nat.reduceLT, Nat.reduceEqDiff, Nat.reduceAdd, Nat.reduceLeDiff, Nat.reduceMul, Nat.reduceSub, Int.reduceEq, reduceCtorEq, reduceIte] <;> rfl) (by simp -implicitDefEqProofs only [go_sem, Nat.reduceLT, Nat.reduceEqDiff, Nat.reduceAdd, Nat.reduceLeDiff, Nat.reduceMul, Nat.reduceSub, Int.reduceEq, reduceCtorEq, reduceIte] <;> rfl) (by simp -implicitDefEqProofs only [go_sem, Nat.reduceLT, Nat.reduceEqDiff, Nat.reduceAdd, Nat.reduceLeDiff, Nat.reduceMul, Nat.reduceSub, Int.reduceEq, reduceCtorEq, reduceIte]) trivial he99 compC ?_)
    | (refine fork_intro (fun h => ?_) (fun h => ?_) <;> try simp only [Int.ofNat_lt, Int.ofNat_le, gdV, decide_eq_true_eq, decide_eq_false_iff_not, Bool.not_eq_true', Bool.not_eq_false', reduceCtorEq, Bool.true_eq_false, Bool.false_eq_true] at h))
  all_goals simp

def smallU (u : List F) : Prop := u.length ≤ 1048576 ∧ ∀ f ∈ u, f.nm.size ≤ 1048576 ∧ small f.bd
theorem smallU_at {u : List F} (h : smallU u) {i : Nat} (hi : i < u.length) : u[i].nm.size ≤ 1048576 ∧ small u[i].bd := h.2 _ (List.getElem_mem hi)
def okAt (u : List F) (i : Nat) : Bool := if h : i < u.length then funOk u[i].nm u[i].bd && decide (findN u u[i].nm = i) else true
def namesOk (u : List F) : Bool := (List.range u.length).all (okAt u)
theorem namesOk_no {u : List F} {i : Nat} (h : i < u.length) (h2 : okAt u i = false) : namesOk u = false := by
  simp only [namesOk, List.all_eq_false]
  exact ⟨i, List.mem_range.2 h, by simp [h2]⟩
theorem namesOk_yes {u : List F} (h : ∀ j, j < u.length → okAt u j = true) : namesOk u = true := by
  simp only [namesOk, List.all_eq_true]
  exact fun j hj => h j (List.mem_range.1 hj)

theorem c91 (u : List F) (hU : smallU u) (E) : AC Try.prog 37 [.one (.sl false 3 (u.map fc))] E (fun sv _ => sv = .one (.lit (.bool (namesOk u)))) := by
  have hu := hU.1
  refine AC_of_swp (n := 24) (rs := [.tmp 2]) hf37 rfl rfl rfl rfl rfl ?_
  repeat' (first
    | refine swp_seq ?_ | refine swp_region ?_ | refine swp_block ?_ | refine swp_skip ?_ | refine swp_ret ?_ | refine swp_exit ?_
    | (refine swp_cond (by simp -implicitDefEqProofs only [go_sem, Nat.reduceLT, Nat.reduceEqDiff, Nat.reduceAdd, Nat.reduceLeDiff, Nat.reduceMul, Nat.reduceSub, Int.reduceEq, reduceCtorEq, reduceIte, *] <;> rfl) (fun h => ?_) (fun h => ?_) <;> try simp only [Int.ofNat_lt, Int.ofNat_le, gdV, decide_eq_true_eq, decide_eq_false_iff_not, Bool.not_eq_true', Bool.not_eq_false', reduceCtorEq, Bool.true_eq_false, Bool.false_eq_true] at h)
    | simp -implicitDefEqProofs only [go_sem, Nat.reduceLT, Nat.reduceEqDiff, Nat.reduceAdd, Nat.reduceLeDiff, Nat.reduceMul, Nat.reduceSub, Int.reduceEq, reduceCtorEq, reduceIte, *]
    | (refine fork_intro (fun h => ?_) (fun h => ?_) <;> try simp only [Int.ofNat_lt, Int.ofNat_le, gdV, decide_eq_true_eq, decide_eq_false_iff_not, Bool.not_eq_true', Bool.not_eq_false', reduceCtorEq, Bool.true_eq_false, Bool.false_eq_true] at h))
  refine swp_loop (ι := { i : Nat // i ≤ u.length ∧ ∀ j, j < i → okAt u j = true }) (fun i => fr 24 [.one (.sl false 3 (u.map fc)), .none, .one (.lit (.bool false)), .none, .none, .one (.sl false 3 (u.map fc)), .one (.lit (.int .i64 u.length)), .one (.lit (.int .i64 (i.1 : Int)))] [])
    (fun i => u.length - i.1) ⟨0, Nat.zero_le _, fun j hj => by omega⟩ ?_ ?_
  · refine le_fr ?_ ?_ ?_ ?_ <;> simp -implicitDefEqProofs only [go_sem, Nat.reduceLT, Nat.reduceEqDiff, Nat.reduceAdd, Nat.reduceLeDiff, Nat.reduceMul, Nat.reduceSub, Int.reduceEq, reduceCtorEq, reduceIte, *] <;> first | rfl | (rw [wrap64 (by omega) (by omega)]; rfl) | (simp; done) | exact ⟨rfl, rfl⟩ | (refine ⟨rfl, ?_⟩; rw [wrap64 (by omega) (by omega)]; rfl)
  rintro ⟨i, hi, hlow⟩
  have hg := fun h => smallU_at hU (i := i) h
  repeat' (first
    | refine swp_seq ?_ | refine swp_region ?_ | refine swp_block ?_ | refine swp_skip ?_ | refine swp_ret ?_ | refine swp_exit ?_
    | (refine swp_cond (by simp -implicitDefEqProofs only [go_sem, Nat.reduceLT, Nat.reduceEqDiff, Nat.reduceAdd, Nat.reduceLeDiff, Nat.reduceMul, Nat.reduceSub, Int.reduceEq, reduceCtorEq, reduceIte, *] <;> rfl) (fun h => ?_) (fun h => ?_) <;> try simp only [Int.ofNat_lt, Int.ofNat_le, gdV, decide_eq_true_eq, decide_eq_false_iff_not, Bool.not_eq_true', Bool.not_eq_false', reduceCtorEq, Bool.true_eq_false, Bool.false_eq_true] at h)
    | simp -implicitDefEqProofs only [go_sem, Nat.reduceLT, Nat.reduceEqDiff, Nat.reduceAdd, Nat.reduceLeDiff, Nat.reduceMul, Nat.reduceSub, Int.reduceEq, reduceCtorEq, reduceIte, *]
    | (refine call_view (f := .func 42) (by simp -implicitDefEqProofs only [go_sem, Nat.reduceLT, Nat.reduceEqDiff, Nat.reduceAdd, Nat.reduceLeDiff, Nat.reduceMul, Nat.reduceSub, Int.reduceEq, reduceCtorEq, reduceIte] <;> rfl) (by simp -implicitDefEqProofs only [go_sem, Nat.reduceLT, Nat.reduceEqDiff, Nat.reduceAdd, Nat.reduceLeDiff, Nat.reduceMul, Nat.reduceSub, Int.reduceEq, reduceCtorEq, reduceIte] <;> rfl) (by simp -implicitDefEqProofs only [go_sem, Nat.reduceLT, Nat.reduceEqDiff, Nat.reduceAdd, Nat.reduceLeDiff, Nat.reduceMul, Nat.reduceSub, Int.reduceEq, reduceCtorEq, reduceIte]) (by first | trivial | simp) he42 (fun E => c15 _ _ _ (hg (by assumption)).1 (hg (by assumption)).2 E) (fun sv E' hQ => ?_); subst hQ)
    | (refine call_view (f := .func 69) (by simp -implicitDefEqProofs only [go_sem, Nat.reduceLT, Nat.reduceEqDiff, Nat.reduceAdd, Nat.reduceLeDiff, Nat.reduceMul, Nat.reduceSub, Int.reduceEq, reduceCtorEq, reduceIte] <;> rfl) (by simp -implicitDefEqProofs only [go_sem, Nat.reduceLT, Nat.reduceEqDiff, Nat.reduceAdd, Nat.reduceLeDiff, Nat.reduceMul, Nat.reduceSub, Int.reduceEq, reduceCtorEq, reduceIte] <;> rfl) (by simp -implicitDefEqProofs only [go_sem, Nat.reduceLT, Nat.reduceEqDiff, Nat.reduceAdd, Nat.reduceLeDiff, Nat.reduceMul, Nat.reduceSub, Int.reduceEq, reduceCtorEq, reduceIte]) (by first | trivial | simp) he69 (fun E => c95 _ _ hu E) (fun sv E' hQ => ?_); subst hQ)
    | (refine fork_intro (fun h => ?_) (fun h => ?_) <;> try simp only [Int.ofNat_lt, Int.ofNat_le, gdV, decide_eq_true_eq, decide_eq_false_iff_not, Bool.not_eq_true', Bool.not_eq_false', reduceCtorEq, Bool.true_eq_false, Bool.false_eq_true] at h))
  all_goals first | (refine ⟨by simp, ?_⟩; rw [namesOk_no (i := i) (by assumption) (by simp [okAt, *])]; done) | (refine ⟨by simp, ?_⟩; rw [namesOk_yes fun j hj => hlow j (by omega)]; done) | skip
  all_goals (rename_i h1 _ h2)
  refine ⟨⟨i + 1, h1, fun j hj => ?_⟩, by show u.length - (i + 1) < u.length - i; omega, ?_⟩
  · rcases Nat.lt_or_ge j i with h' | h'
    · exact hlow j h'
    · have : j = i := by omega
      subst this; simp [okAt, *]
  · refine le_fr ?_ ?_ ?_ ?_ <;> simp -implicitDefEqProofs only [go_sem, Nat.reduceLT, Nat.reduceEqDiff, Nat.reduceAdd, Nat.reduceLeDiff, Nat.reduceMul, Nat.reduceSub, Int.reduceEq, reduceCtorEq, reduceIte, *] <;> first | rfl | (rw [wrap64 (by omega) (by omega)]; rfl) | (simp; done) | exact ⟨rfl, rfl⟩ | (refine ⟨rfl, ?_⟩; rw [wrap64 (by omega) (by omega)]; rfl)

def lk (u : List F) (s : ByteArray) : Bool := decide (findN u s < 0)
def lackU (u : List F) (i : Nat) : List ByteArray := (u.take i).flatMap fun f => (refsN f.bd).filter (lk u)
theorem lackU_zero {u : List F} : lackU u 0 = [] := rfl
theorem lackU_succ {u : List F} {i : Nat} (h : i < u.length) : lackU u (i + 1) = lackU u i ++ (refsN u[i].bd).filter (lk u) := by
  rw [lackU, List.take_succ_eq_append_getElem h, List.flatMap_append]; simp [lackU]
def lackK (u : List F) (i : Nat) (r : List ByteArray) (k : Nat) : List ByteArray := lackU u i ++ (r.take k).filter (lk u)
theorem lackK_zero {u : List F} {i : Nat} {r : List ByteArray} : lackK u i r 0 = lackU u i := by simp [lackK]
theorem lackK_end {u : List F} {i k : Nat} (h : i < u.length) (hk : (refsN u[i].bd).length ≤ k) : lackK u i (refsN u[i].bd) k = lackU u (i + 1) := by
  rw [lackU_succ h, lackK, List.take_of_length_le hk]
theorem lackK_yes {u : List F} {i k : Nat} {r : List ByteArray} (h : k < r.length) (h2 : findN u r[k] < 0) : lackK u i r (k + 1) = lackK u i r k ++ [r[k]] := by
  rw [lackK, List.take_succ_eq_append_getElem h, List.filter_append, ← List.append_assoc]; simp [lackK, lk, h2]
theorem lackK_no {u : List F} {i k : Nat} {r : List ByteArray} (h : k < r.length) (h2 : ¬ findN u r[k] < 0) : lackK u i r (k + 1) = lackK u i r k := by
  rw [lackK, List.take_succ_eq_append_getElem h, List.filter_append, ← List.append_assoc]; simp [lackK, lk, h2]
theorem lackU_len {u : List F} (hU : smallU u) : ∀ i, i ≤ u.length → (lackU u i).length ≤ i * 1048576
  | 0, _ => by simp [lackU_zero]
  | i + 1, hi => by
    have h1 := lackU_len hU i (by omega)
    have h2 : ((refsN u[i].bd).filter (lk u)).length ≤ 1048576 := by
      refine Nat.le_trans (List.length_filter_le _ _) ?_
      have := refsN_len u[i].bd []
      have h3 := (smallU_at hU (i := i) (by omega)).2.1
      simp only [refsN, List.length_nil] at *; omega
    rw [lackU_succ (by omega), List.length_append]; omega
theorem refsN_small {u : List F} (hU : smallU u) {i : Nat} (h : i < u.length) : (refsN u[i].bd).length ≤ 1048576 := by
  have := refsN_len u[i].bd []
  have h3 := (smallU_at hU h).2.1
  simp only [refsN, List.length_nil] at *; omega

@[go_sem] theorem le_rD {σ : St} {d : D} {r : List ByteArray} : D.le σ d (rD r) = (d = rD r) := by
  unfold rD; split <;> rfl
theorem rD_cases {r : List ByteArray} {sv : SV} (h : sv = .one (rD r)) : (r = [] ∧ sv = .one .nil) ∨ (r ≠ [] ∧ sv = .one (.sl true 1 (r.map strRow))) := by
  by_cases h0 : r = []
  · exact .inl ⟨h0, by rw [h, h0, rD_nil]⟩
  · exact .inr ⟨h0, by rw [h, rD_cons h0]⟩

theorem c92 (u : List F) (hU : smallU u) (E) : AC Try.prog 38 [.one (.sl false 3 (u.map fc))] E (fun sv _ => sv = .one (.sl true 1 ((ordB (lackU u u.length)).map strRow))) := by
  have hu := hU.1
  refine AC_of_swp (n := 33) (rs := [.tmp 2]) hf38 rfl rfl rfl rfl rfl ?_
  repeat' (first
    | refine swp_seq ?_ | refine swp_region ?_ | refine swp_block ?_ | refine swp_skip ?_ | refine swp_ret ?_ | refine swp_exit ?_
    | (refine swp_cond (by simp -implicitDefEqProofs only [go_sem, Nat.reduceLT, Nat.reduceEqDiff, Nat.reduceAdd, Nat.reduceLeDiff, Nat.reduceMul, Nat.reduceSub, Int.reduceEq, reduceCtorEq, reduceIte, *] <;> rfl) (fun h => ?_) (fun h => ?_) <;> try simp only [Int.ofNat_lt, Int.ofNat_le, gdV, decide_eq_true_eq, decide_eq_false_iff_not, Bool.not_eq_true', Bool.not_eq_false', reduceCtorEq, Bool.true_eq_false, Bool.false_eq_true] at h)
    | simp -implicitDefEqProofs only [go_sem, Nat.reduceLT, Nat.reduceEqDiff, Nat.reduceAdd, Nat.reduceLeDiff, Nat.reduceMul, Nat.reduceSub, Int.reduceEq, reduceCtorEq, reduceIte, *]
    | (refine fork_intro (fun h => ?_) (fun h => ?_) <;> try simp only [Int.ofNat_lt, Int.ofNat_le, gdV, decide_eq_true_eq, decide_eq_false_iff_not, Bool.not_eq_true', Bool.not_eq_false', reduceCtorEq, Bool.true_eq_false, Bool.false_eq_true] at h))
  refine swp_loop (ι := { i : Nat // i ≤ u.length }) (fun i => fr 33 [.one (.sl false 3 (u.map fc)), .none, .none, .one (rD (lackU u i.1)), .none, .none, .none, .none, .one (.sl false 3 (u.map fc)), .one (.lit (.int .i64 u.length)), .one (.lit (.int .i64 (i.1 : Int)))] [])
    (fun i => u.length - i.1) ⟨0, Nat.zero_le _⟩ ?_ ?_
  · refine le_fr ?_ ?_ ?_ ?_ <;> simp -implicitDefEqProofs only [go_sem, Nat.reduceLT, Nat.reduceEqDiff, Nat.reduceAdd, Nat.reduceLeDiff, Nat.reduceMul, Nat.reduceSub, Int.reduceEq, reduceCtorEq, reduceIte, *] <;> first | rfl | (rw [wrap64 (by omega) (by omega)]; rfl) | (simp; done) | exact ⟨rfl, rfl⟩ | (refine ⟨rfl, ?_⟩; rw [wrap64 (by omega) (by omega)]; rfl)
  rintro ⟨i, hi⟩
  simp only
  have hg := fun h => smallU_at hU (i := i) h
  have hLU := lackU_len hU i hi
  have hord : ¬ i < u.length → lackU u u.length = lackU u i := fun h => by rw [show u.length = i by omega]
  generalize hL : lackU u i = L at *
  have hL9 : L.length ≤ 1099511627776 := by omega
  rcases Nat.lt_or_ge i u.length with hlt | hge
  case inr =>
    have hn : ¬ i < u.length := by omega
    by_cases h0 : L = []
    · rw [h0] at hord ⊢
      rw [rD_nil]
      repeat' (first
        | refine swp_seq ?_ | refine swp_region ?_ | refine swp_block ?_ | refine swp_skip ?_ | refine swp_ret ?_ | refine swp_exit ?_
        | (refine swp_cond (by simp -implicitDefEqProofs only [go_sem, Nat.reduceLT, Nat.reduceEqDiff, Nat.reduceAdd, Nat.reduceLeDiff, Nat.reduceMul, Nat.reduceSub, Int.reduceEq, reduceCtorEq, reduceIte, *] <;> rfl) (fun h => ?_) (fun h => ?_) <;> try simp only [Int.ofNat_lt, Int.ofNat_le, gdV, decide_eq_true_eq, decide_eq_false_iff_not, Bool.not_eq_true', Bool.not_eq_false', reduceCtorEq, Bool.true_eq_false, Bool.false_eq_true] at h)
        | simp -implicitDefEqProofs only [go_sem, Nat.reduceLT, Nat.reduceEqDiff, Nat.reduceAdd, Nat.reduceLeDiff, Nat.reduceMul, Nat.reduceSub, Int.reduceEq, reduceCtorEq, reduceIte, *]
        | (refine call_view (f := .func 70) (by simp -implicitDefEqProofs only [go_sem, Nat.reduceLT, Nat.reduceEqDiff, Nat.reduceAdd, Nat.reduceLeDiff, Nat.reduceMul, Nat.reduceSub, Int.reduceEq, reduceCtorEq, reduceIte] <;> rfl) (by simp -implicitDefEqProofs only [go_sem, Nat.reduceLT, Nat.reduceEqDiff, Nat.reduceAdd, Nat.reduceLeDiff, Nat.reduceMul, Nat.reduceSub, Int.reduceEq, reduceCtorEq, reduceIte] <;> rfl) (by simp -implicitDefEqProofs only [go_sem, Nat.reduceLT, Nat.reduceEqDiff, Nat.reduceAdd, Nat.reduceLeDiff, Nat.reduceMul, Nat.reduceSub, Int.reduceEq, reduceCtorEq, reduceIte]) (by first | trivial | simp) he70 (fun E => c102n  E) (fun sv E' hQ => ?_); subst hQ)
        | (refine fork_intro (fun h => ?_) (fun h => ?_) <;> try simp only [Int.ofNat_lt, Int.ofNat_le, gdV, decide_eq_true_eq, decide_eq_false_iff_not, Bool.not_eq_true', Bool.not_eq_false', reduceCtorEq, Bool.true_eq_false, Bool.false_eq_true] at h))
      have e0 : ordB [] = [] := ordB_nil_iff.2 rfl
      refine ⟨by simp, ?_⟩
      exact swp_ret ⟨by simp [go_sem], by simp [go_sem, e0]⟩
    · rw [rD_cons h0]
      repeat' (first
        | refine swp_seq ?_ | refine swp_region ?_ | refine swp_block ?_ | refine swp_skip ?_ | refine swp_ret ?_ | refine swp_exit ?_
        | (refine swp_cond (by simp -implicitDefEqProofs only [go_sem, Nat.reduceLT, Nat.reduceEqDiff, Nat.reduceAdd, Nat.reduceLeDiff, Nat.reduceMul, Nat.reduceSub, Int.reduceEq, reduceCtorEq, reduceIte, *] <;> rfl) (fun h => ?_) (fun h => ?_) <;> try simp only [Int.ofNat_lt, Int.ofNat_le, gdV, decide_eq_true_eq, decide_eq_false_iff_not, Bool.not_eq_true', Bool.not_eq_false', reduceCtorEq, Bool.true_eq_false, Bool.false_eq_true] at h)
        | simp -implicitDefEqProofs only [go_sem, Nat.reduceLT, Nat.reduceEqDiff, Nat.reduceAdd, Nat.reduceLeDiff, Nat.reduceMul, Nat.reduceSub, Int.reduceEq, reduceCtorEq, reduceIte, *]
        | (refine call_lendS 3 (f := .func 70) (by simp -implicitDefEqProofs only [go_sem, Nat.reduceLT, Nat.reduceEqDiff, Nat.reduceAdd, Nat.reduceLeDiff, Nat.reduceMul, Nat.reduceSub, Int.reduceEq, reduceCtorEq, reduceIte] <;> rfl) (by simp -implicitDefEqProofs only [go_sem, Nat.reduceLT, Nat.reduceEqDiff, Nat.reduceAdd, Nat.reduceLeDiff, Nat.reduceMul, Nat.reduceSub, Int.reduceEq, reduceCtorEq, reduceIte] <;> rfl) (by simp -implicitDefEqProofs only [go_sem, Nat.reduceLT, Nat.reduceEqDiff, Nat.reduceAdd, Nat.reduceLeDiff, Nat.reduceMul, Nat.reduceSub, Int.reduceEq, reduceCtorEq, reduceIte, *] <;> rfl) (by simp -implicitDefEqProofs only [go_sem, Nat.reduceLT, Nat.reduceEqDiff, Nat.reduceAdd, Nat.reduceLeDiff, Nat.reduceMul, Nat.reduceSub, Int.reduceEq, reduceCtorEq, reduceIte] <;> rfl) (by simp -implicitDefEqProofs only [go_sem, Nat.reduceLT, Nat.reduceEqDiff, Nat.reduceAdd, Nat.reduceLeDiff, Nat.reduceMul, Nat.reduceSub, Int.reduceEq, reduceCtorEq, reduceIte]) (by decide) trivial trivial he70 (fun E hE => c102 _ hL9 E hE) (fun sv E' hQ => ?_); obtain ⟨hQ, xs, hE'⟩ := hQ; subst hQ; refine ⟨by simp [SV.Fresh, -fresh_sl, -List.map_map, frss], _, hE', frss, ?_⟩)
        | (refine fork_intro (fun h => ?_) (fun h => ?_) <;> try simp only [Int.ofNat_lt, Int.ofNat_le, gdV, decide_eq_true_eq, decide_eq_false_iff_not, Bool.not_eq_true', Bool.not_eq_false', reduceCtorEq, Bool.true_eq_false, Bool.false_eq_true] at h))
      all_goals first | (simp; done)
  have hgb := hg hlt
  have hrs := refsN_small hU hlt
  have hsucc : lackK u i (refsN u[i].bd) (refsN u[i].bd).length = lackU u (i + 1) := lackK_end hlt (Nat.le_refl _)
  have hK0 : lackK u i (refsN u[i].bd) 0 = L := by rw [lackK_zero, hL]
  have hKy := fun k (hk : k < (refsN u[i].bd).length) => lackK_yes (u := u) (i := i) hk
  have hKn := fun k (hk : k < (refsN u[i].bd).length) => lackK_no (u := u) (i := i) hk
  have hKl : ∀ k, k ≤ (refsN u[i].bd).length → (lackK u i (refsN u[i].bd) k).length ≤ 1099511627776 := fun k hk => by
    have : ((refsN u[i].bd).take k).length ≤ 1048576 := by simp; omega
    have h2 := List.length_filter_le (lk u) ((refsN u[i].bd).take k)
    rw [lackK, List.length_append, hL]; omega
  generalize hrr : refsN u[i].bd = r at *
  repeat' (first
    | refine swp_seq ?_ | refine swp_region ?_ | refine swp_block ?_ | refine swp_skip ?_ | refine swp_ret ?_ | refine swp_exit ?_
    | (refine swp_cond (by simp -implicitDefEqProofs only [go_sem, Nat.reduceLT, Nat.reduceEqDiff, Nat.reduceAdd, Nat.reduceLeDiff, Nat.reduceMul, Nat.reduceSub, Int.reduceEq, reduceCtorEq, reduceIte, *] <;> rfl) (fun h => ?_) (fun h => ?_) <;> try simp only [Int.ofNat_lt, Int.ofNat_le, gdV, decide_eq_true_eq, decide_eq_false_iff_not, Bool.not_eq_true', Bool.not_eq_false', reduceCtorEq, Bool.true_eq_false, Bool.false_eq_true] at h)
    | simp -implicitDefEqProofs only [go_sem, Nat.reduceLT, Nat.reduceEqDiff, Nat.reduceAdd, Nat.reduceLeDiff, Nat.reduceMul, Nat.reduceSub, Int.reduceEq, reduceCtorEq, reduceIte, *]
    | (refine call_view (f := .func 59) (by simp -implicitDefEqProofs only [go_sem, Nat.reduceLT, Nat.reduceEqDiff, Nat.reduceAdd, Nat.reduceLeDiff, Nat.reduceMul, Nat.reduceSub, Int.reduceEq, reduceCtorEq, reduceIte] <;> rfl) (by simp -implicitDefEqProofs only [go_sem, Nat.reduceLT, Nat.reduceEqDiff, Nat.reduceAdd, Nat.reduceLeDiff, Nat.reduceMul, Nat.reduceSub, Int.reduceEq, reduceCtorEq, reduceIte] <;> rfl) (by simp -implicitDefEqProofs only [go_sem, Nat.reduceLT, Nat.reduceEqDiff, Nat.reduceAdd, Nat.reduceLeDiff, Nat.reduceMul, Nat.reduceSub, Int.reduceEq, reduceCtorEq, reduceIte]) (by first | trivial | simp) he59 (fun E => c101 _ _ _ hgb.2.1 E) (fun sv E' hQ => ?_); replace hQ := rD_cases hQ; rcases hQ with ⟨hr0, hQ⟩ | ⟨hr0, hQ⟩ <;> subst hQ <;> refine ⟨by simp [SV.Fresh, -fresh_sl, -List.map_map, frss, frsD], ?_⟩)
    | (refine fork_intro (fun h => ?_) (fun h => ?_) <;> try simp only [Int.ofNat_lt, Int.ofNat_le, gdV, decide_eq_true_eq, decide_eq_false_iff_not, Bool.not_eq_true', Bool.not_eq_false', reduceCtorEq, Bool.true_eq_false, Bool.false_eq_true] at h))
  · rw [hrr] at hr0
    subst hr0
    refine swp_loop (ι := Unit) (fun _ => fr 33 [.one (.sl false 3 (u.map fc)), .none, .none, .one (rD L), .none, .none, .none, .none, .one (.sl false 3 (u.map fc)), .one (.lit (.int .i64 u.length)), .one (.lit (.int .i64 (i : Int))), .none, .none, .none, .none, .none, .one (.lit (.int .i64 0)), .one (.lit (.int .i64 0))] []) (fun _ => 0) () ?_ ?_
    · refine le_fr ?_ ?_ ?_ ?_ <;> simp -implicitDefEqProofs only [go_sem, Nat.reduceLT, Nat.reduceEqDiff, Nat.reduceAdd, Nat.reduceLeDiff, Nat.reduceMul, Nat.reduceSub, Int.reduceEq, reduceCtorEq, reduceIte, *] <;> first | rfl | (rw [wrap64 (by omega) (by omega)]; rfl) | (simp; done) | exact ⟨rfl, rfl⟩ | (refine ⟨rfl, ?_⟩; rw [wrap64 (by omega) (by omega)]; rfl)
    rintro ⟨⟩
    repeat' (first
      | refine swp_seq ?_ | refine swp_region ?_ | refine swp_block ?_ | refine swp_skip ?_ | refine swp_ret ?_ | refine swp_exit ?_
      | (refine swp_cond (by simp -implicitDefEqProofs only [go_sem, Nat.reduceLT, Nat.reduceEqDiff, Nat.reduceAdd, Nat.reduceLeDiff, Nat.reduceMul, Nat.reduceSub, Int.reduceEq, reduceCtorEq, reduceIte, *] <;> rfl) (fun h => ?_) (fun h => ?_) <;> try simp only [Int.ofNat_lt, Int.ofNat_le, gdV, decide_eq_true_eq, decide_eq_false_iff_not, Bool.not_eq_true', Bool.not_eq_false', reduceCtorEq, Bool.true_eq_false, Bool.false_eq_true] at h)
      | simp -implicitDefEqProofs only [go_sem, Nat.reduceLT, Nat.reduceEqDiff, Nat.reduceAdd, Nat.reduceLeDiff, Nat.reduceMul, Nat.reduceSub, Int.reduceEq, reduceCtorEq, reduceIte, *]
      | (refine fork_intro (fun h => ?_) (fun h => ?_) <;> try simp only [Int.ofNat_lt, Int.ofNat_le, gdV, decide_eq_true_eq, decide_eq_false_iff_not, Bool.not_eq_true', Bool.not_eq_false', reduceCtorEq, Bool.true_eq_false, Bool.false_eq_true] at h))
    all_goals first | (exfalso; omega) | skip
    refine ⟨⟨i + 1, hlt⟩, by show u.length - (i + 1) < u.length - i; omega, ?_⟩
    have e : lackU u (i + 1) = L := by rw [← hsucc]; exact hK0
    rw [e]
    clear hsucc hK0 hKy hKn hKl hL
    refine le_fr ?_ ?_ ?_ ?_ <;> simp -implicitDefEqProofs only [go_sem, Nat.reduceLT, Nat.reduceEqDiff, Nat.reduceAdd, Nat.reduceLeDiff, Nat.reduceMul, Nat.reduceSub, Int.reduceEq, reduceCtorEq, reduceIte, *] <;> first | rfl | (rw [wrap64 (by omega) (by omega)]; rfl) | (simp; done) | exact ⟨rfl, rfl⟩ | (refine ⟨rfl, ?_⟩; rw [wrap64 (by omega) (by omega)]; rfl)
  rw [hrr] at hr0
  have hlr : refsN u[i].bd = r := hrr
  refine swp_loop (ι := { k : Nat // k ≤ r.length }) (fun k => fr 33 [.one (.sl false 3 (u.map fc)), .none, .none, .one (rD (lackK u i r k.1)), .none, .none, .none, .none, .one (.sl false 3 (u.map fc)), .one (.lit (.int .i64 u.length)), .one (.lit (.int .i64 (i : Int))), .none, .none, .none, .none, .one (.sl true 1 (r.map strRow)), .one (.lit (.int .i64 r.length)), .one (.lit (.int .i64 (k.1 : Int)))] []) (fun k => r.length - k.1) ⟨0, Nat.zero_le _⟩ ?_ ?_
  · rw [hK0]
    refine le_fr ?_ ?_ ?_ ?_ <;> simp -implicitDefEqProofs only [go_sem, Nat.reduceLT, Nat.reduceEqDiff, Nat.reduceAdd, Nat.reduceLeDiff, Nat.reduceMul, Nat.reduceSub, Int.reduceEq, reduceCtorEq, reduceIte, *] <;> first | rfl | (rw [wrap64 (by omega) (by omega)]; rfl) | (simp; done) | exact ⟨rfl, rfl⟩ | (refine ⟨rfl, ?_⟩; rw [wrap64 (by omega) (by omega)]; rfl)
  rintro ⟨k, hk⟩
  simp only
  have hKk := hKl k hk
  have hend : ¬ k < r.length → lackK u i r k = lackU u (i + 1) := fun h => by rw [← hsucc, show k = r.length by omega]
  have hy := hKy k
  have hn := hKn k
  generalize lackK u i r k = M at hKk hend hy hn ⊢
  clear hKy hKn hKl hK0 hsucc hL hord
  have hA : (M.length + 1) * 16 ≤ 140737488355328 := by omega
  have hB : M.length + 1 ≤ 9223372036854775807 := by omega
  by_cases hM : M = []
  · subst hM
    rw [rD_nil]
    repeat' (first
      | refine swp_seq ?_ | refine swp_region ?_ | refine swp_block ?_ | refine swp_skip ?_ | refine swp_ret ?_ | refine swp_exit ?_
      | (refine swp_cond (by simp -implicitDefEqProofs only [go_sem, Nat.reduceLT, Nat.reduceEqDiff, Nat.reduceAdd, Nat.reduceLeDiff, Nat.reduceMul, Nat.reduceSub, Int.reduceEq, reduceCtorEq, reduceIte, *] <;> rfl) (fun h => ?_) (fun h => ?_) <;> try simp only [Int.ofNat_lt, Int.ofNat_le, gdV, decide_eq_true_eq, decide_eq_false_iff_not, Bool.not_eq_true', Bool.not_eq_false', reduceCtorEq, Bool.true_eq_false, Bool.false_eq_true] at h)
      | simp -implicitDefEqProofs only [go_sem, Nat.reduceLT, Nat.reduceEqDiff, Nat.reduceAdd, Nat.reduceLeDiff, Nat.reduceMul, Nat.reduceSub, Int.reduceEq, reduceCtorEq, reduceIte, *]
      | (refine call_view (f := .func 69) (by simp -implicitDefEqProofs only [go_sem, Nat.reduceLT, Nat.reduceEqDiff, Nat.reduceAdd, Nat.reduceLeDiff, Nat.reduceMul, Nat.reduceSub, Int.reduceEq, reduceCtorEq, reduceIte] <;> rfl) (by simp -implicitDefEqProofs only [go_sem, Nat.reduceLT, Nat.reduceEqDiff, Nat.reduceAdd, Nat.reduceLeDiff, Nat.reduceMul, Nat.reduceSub, Int.reduceEq, reduceCtorEq, reduceIte] <;> rfl) (by simp -implicitDefEqProofs only [go_sem, Nat.reduceLT, Nat.reduceEqDiff, Nat.reduceAdd, Nat.reduceLeDiff, Nat.reduceMul, Nat.reduceSub, Int.reduceEq, reduceCtorEq, reduceIte]) (by first | trivial | simp) he69 (fun E => c95 _ _ hu E) (fun sv E' hQ => ?_); subst hQ)
      | (refine fork_intro (fun h => ?_) (fun h => ?_) <;> try simp only [Int.ofNat_lt, Int.ofNat_le, gdV, decide_eq_true_eq, decide_eq_false_iff_not, Bool.not_eq_true', Bool.not_eq_false', reduceCtorEq, Bool.true_eq_false, Bool.false_eq_true] at h))
    · rename_i h9
      have e2 : [r[k]].map strRow = [[.lit (.string r[k])]] := rfl
      refine ⟨⟨k + 1, h9⟩, by show r.length - (k + 1) < r.length - k; omega, ?_⟩
      have e := hy h9 h
      clear hy hn hend
      show Le _ (fr 33 [.one (.sl false 3 (u.map fc)), .none, .none, .one (rD (lackK u i r (k + 1))), .none, .none, .none, .none, .one (.sl false 3 (u.map fc)), .one (.lit (.int .i64 u.length)), .one (.lit (.int .i64 (i : Int))), .none, .none, .none, .none, .one (.sl true 1 (r.map strRow)), .one (.lit (.int .i64 r.length)), .one (.lit (.int .i64 ((k + 1 : Nat) : Int)))] [])
      rw [e, List.nil_append, rD_cons (by simp)]
      refine le_fr ?_ ?_ ?_ ?_ <;> simp -implicitDefEqProofs only [go_sem, Nat.reduceLT, Nat.reduceEqDiff, Nat.reduceAdd, Nat.reduceLeDiff, Nat.reduceMul, Nat.reduceSub, Int.reduceEq, reduceCtorEq, reduceIte, *] <;> first | rfl | (rw [wrap64 (by omega) (by omega)]; rfl) | (simp; done) | exact ⟨rfl, rfl⟩ | (refine ⟨rfl, ?_⟩; rw [wrap64 (by omega) (by omega)]; rfl)
    · rename_i h9
      refine ⟨⟨k + 1, h9⟩, by show r.length - (k + 1) < r.length - k; omega, ?_⟩
      have e := hn h9 h
      clear hy hn hend
      show Le _ (fr 33 [.one (.sl false 3 (u.map fc)), .none, .none, .one (rD (lackK u i r (k + 1))), .none, .none, .none, .none, .one (.sl false 3 (u.map fc)), .one (.lit (.int .i64 u.length)), .one (.lit (.int .i64 (i : Int))), .none, .none, .none, .none, .one (.sl true 1 (r.map strRow)), .one (.lit (.int .i64 r.length)), .one (.lit (.int .i64 ((k + 1 : Nat) : Int)))] [])
      rw [e, rD_nil]
      refine le_fr ?_ ?_ ?_ ?_ <;> simp -implicitDefEqProofs only [go_sem, Nat.reduceLT, Nat.reduceEqDiff, Nat.reduceAdd, Nat.reduceLeDiff, Nat.reduceMul, Nat.reduceSub, Int.reduceEq, reduceCtorEq, reduceIte, *] <;> first | rfl | (rw [wrap64 (by omega) (by omega)]; rfl) | (simp; done) | exact ⟨rfl, rfl⟩ | (refine ⟨rfl, ?_⟩; rw [wrap64 (by omega) (by omega)]; rfl)
    · refine ⟨⟨i + 1, hlt⟩, by show u.length - (i + 1) < u.length - i; omega, ?_⟩
      have e := hend h
      clear hy hn hend
      show Le _ (fr 33 [.one (.sl false 3 (u.map fc)), .none, .none, .one (rD (lackU u (i + 1))), .none, .none, .none, .none, .one (.sl false 3 (u.map fc)), .one (.lit (.int .i64 u.length)), .one (.lit (.int .i64 ((i + 1 : Nat) : Int)))] [])
      rw [← e, rD_nil]
      refine le_fr ?_ ?_ ?_ ?_ <;> simp -implicitDefEqProofs only [go_sem, Nat.reduceLT, Nat.reduceEqDiff, Nat.reduceAdd, Nat.reduceLeDiff, Nat.reduceMul, Nat.reduceSub, Int.reduceEq, reduceCtorEq, reduceIte, *] <;> first | rfl | (rw [wrap64 (by omega) (by omega)]; rfl) | (simp; done) | exact ⟨rfl, rfl⟩ | (refine ⟨rfl, ?_⟩; rw [wrap64 (by omega) (by omega)]; rfl)
  rw [rD_cons hM]
  repeat' (first
    | refine swp_seq ?_ | refine swp_region ?_ | refine swp_block ?_ | refine swp_skip ?_ | refine swp_ret ?_ | refine swp_exit ?_
    | (refine swp_cond (by simp -implicitDefEqProofs only [go_sem, Nat.reduceLT, Nat.reduceEqDiff, Nat.reduceAdd, Nat.reduceLeDiff, Nat.reduceMul, Nat.reduceSub, Int.reduceEq, reduceCtorEq, reduceIte, *] <;> rfl) (fun h => ?_) (fun h => ?_) <;> try simp only [Int.ofNat_lt, Int.ofNat_le, gdV, decide_eq_true_eq, decide_eq_false_iff_not, Bool.not_eq_true', Bool.not_eq_false', reduceCtorEq, Bool.true_eq_false, Bool.false_eq_true] at h)
    | simp -implicitDefEqProofs only [go_sem, Nat.reduceLT, Nat.reduceEqDiff, Nat.reduceAdd, Nat.reduceLeDiff, Nat.reduceMul, Nat.reduceSub, Int.reduceEq, reduceCtorEq, reduceIte, *]
    | (refine call_view (f := .func 69) (by simp -implicitDefEqProofs only [go_sem, Nat.reduceLT, Nat.reduceEqDiff, Nat.reduceAdd, Nat.reduceLeDiff, Nat.reduceMul, Nat.reduceSub, Int.reduceEq, reduceCtorEq, reduceIte] <;> rfl) (by simp -implicitDefEqProofs only [go_sem, Nat.reduceLT, Nat.reduceEqDiff, Nat.reduceAdd, Nat.reduceLeDiff, Nat.reduceMul, Nat.reduceSub, Int.reduceEq, reduceCtorEq, reduceIte] <;> rfl) (by simp -implicitDefEqProofs only [go_sem, Nat.reduceLT, Nat.reduceEqDiff, Nat.reduceAdd, Nat.reduceLeDiff, Nat.reduceMul, Nat.reduceSub, Int.reduceEq, reduceCtorEq, reduceIte]) (by first | trivial | simp) he69 (fun E => c95 _ _ hu E) (fun sv E' hQ => ?_); subst hQ)
    | (refine fork_intro (fun h => ?_) (fun h => ?_) <;> try simp only [Int.ofNat_lt, Int.ofNat_le, gdV, decide_eq_true_eq, decide_eq_false_iff_not, Bool.not_eq_true', Bool.not_eq_false', reduceCtorEq, Bool.true_eq_false, Bool.false_eq_true] at h))
  · rename_i h9
    have e2 : M.map strRow ++ [[.lit (.string r[k])]] = (M ++ [r[k]]).map strRow := by simp [strRow]
    refine ⟨⟨k + 1, h9⟩, by show r.length - (k + 1) < r.length - k; omega, ?_⟩
    have e := hy h9 h
    clear hy hn hend
    show Le _ (fr 33 [.one (.sl false 3 (u.map fc)), .none, .none, .one (rD (lackK u i r (k + 1))), .none, .none, .none, .none, .one (.sl false 3 (u.map fc)), .one (.lit (.int .i64 u.length)), .one (.lit (.int .i64 (i : Int))), .none, .none, .none, .none, .one (.sl true 1 (r.map strRow)), .one (.lit (.int .i64 r.length)), .one (.lit (.int .i64 ((k + 1 : Nat) : Int)))] [])
    rw [e, rD_cons (by simp)]
    refine le_fr ?_ ?_ ?_ ?_ <;> simp -implicitDefEqProofs only [go_sem, Nat.reduceLT, Nat.reduceEqDiff, Nat.reduceAdd, Nat.reduceLeDiff, Nat.reduceMul, Nat.reduceSub, Int.reduceEq, reduceCtorEq, reduceIte, *] <;> first | rfl | (rw [wrap64 (by omega) (by omega)]; rfl) | (simp; done) | exact ⟨rfl, rfl⟩ | (refine ⟨rfl, ?_⟩; rw [wrap64 (by omega) (by omega)]; rfl)
  · rename_i h9
    refine ⟨⟨k + 1, h9⟩, by show r.length - (k + 1) < r.length - k; omega, ?_⟩
    have e := hn h9 h
    clear hy hn hend
    show Le _ (fr 33 [.one (.sl false 3 (u.map fc)), .none, .none, .one (rD (lackK u i r (k + 1))), .none, .none, .none, .none, .one (.sl false 3 (u.map fc)), .one (.lit (.int .i64 u.length)), .one (.lit (.int .i64 (i : Int))), .none, .none, .none, .none, .one (.sl true 1 (r.map strRow)), .one (.lit (.int .i64 r.length)), .one (.lit (.int .i64 ((k + 1 : Nat) : Int)))] [])
    rw [e, rD_cons hM]
    refine le_fr ?_ ?_ ?_ ?_ <;> simp -implicitDefEqProofs only [go_sem, Nat.reduceLT, Nat.reduceEqDiff, Nat.reduceAdd, Nat.reduceLeDiff, Nat.reduceMul, Nat.reduceSub, Int.reduceEq, reduceCtorEq, reduceIte, *] <;> first | rfl | (rw [wrap64 (by omega) (by omega)]; rfl) | (simp; done) | exact ⟨rfl, rfl⟩ | (refine ⟨rfl, ?_⟩; rw [wrap64 (by omega) (by omega)]; rfl)
  · refine ⟨⟨i + 1, hlt⟩, by show u.length - (i + 1) < u.length - i; omega, ?_⟩
    have e := hend h
    clear hy hn hend
    show Le _ (fr 33 [.one (.sl false 3 (u.map fc)), .none, .none, .one (rD (lackU u (i + 1))), .none, .none, .none, .none, .one (.sl false 3 (u.map fc)), .one (.lit (.int .i64 u.length)), .one (.lit (.int .i64 ((i + 1 : Nat) : Int)))] [])
    rw [← e, rD_cons hM]
    refine le_fr ?_ ?_ ?_ ?_ <;> simp -implicitDefEqProofs only [go_sem, Nat.reduceLT, Nat.reduceEqDiff, Nat.reduceAdd, Nat.reduceLeDiff, Nat.reduceMul, Nat.reduceSub, Int.reduceEq, reduceCtorEq, reduceIte, *] <;> first | rfl | (rw [wrap64 (by omega) (by omega)]; rfl) | (simp; done) | exact ⟨rfl, rfl⟩ | (refine ⟨rfl, ?_⟩; rw [wrap64 (by omega) (by omega)]; rfl)

end Go.Proofs.Ytlphbpjejdhaoaa
