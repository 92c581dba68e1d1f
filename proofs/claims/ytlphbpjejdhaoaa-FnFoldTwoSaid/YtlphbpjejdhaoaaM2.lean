/- What is drawn: names put in order. No condition. -/
import Derived.Test.YtlphbpjejdhaoaaM1
open Go Go.AI Go.Proofs
set_option maxRecDepth 100000
set_option maxHeartbeats 4000000
set_option linter.unusedSimpArgs false
set_option linter.unusedVariables false
namespace Go.Proofs.Ytlphbpjejdhaoaa
attribute [local irreducible] awpOps opA callA Then Fork SWP

section
variable {P : Program} {ops : Array Oper} {σ : St}
theorem owp_front {Q : St → Prop} {r : List Oper} (s : Nat) (q : Pl) (k j hi : Nat) {n : Nat} {sz : Nat} {rows : List (List D)} (hqs : q ≠ .s s) (hsl : σ.sl s = .one (.bor q [(k, j)] n (some (0, hi)))) (hn : n = σ.sb q (k, j)) (hq : cellIn (σ.rows q) (k, j) = some (.sl true sz rows)) (hhi : hi ≤ rows.length)
    (h : OWP P ops Q r (σ.front s q k j sz (rows.take hi))) : OWP P ops Q r σ := owp_step (fun G a w hR => by
  subst hn
  obtain ⟨G', h1, h2, h3⟩ := hR.front hqs hsl hq hhi
  exact ⟨G', h1, h2.toKf, h3⟩) h
theorem swp_owp7 {Q : Exit → St → Prop} (h : OWP P ops (Q .normal) ops.toList σ) : SWP P (.region 7 ops false) Q σ := swp_owp h
theorem swp_claimR {Q : Exit → St → Prop} (s : Nat) (h : Q .ret (σ.claim1 (.s s) 0 0)) : SWP P .ret Q σ := swp_claim s (swp_ret h)
end
def putQ (l : List ByteArray) (s : ByteArray) (sv : SV) (E' : Nat → Option (Bool × List D)) : Prop := ∃ (r : List ByteArray) (x : D), sv = .one (.sl true 1 (r.map strRow)) ∧ r.length ≤ l.length + 1 ∧ (∀ t ∈ r, t ∈ l ∨ t = s) ∧ x.Fresh ∧ E' 100000 = some (false, [x])
theorem c2115 (l : List ByteArray) (s : ByteArray) (hl : l.length ≤ 1048576) (E) (hE : E 100000 = some (false, [.sl true 1 (l.map strRow)])) : AC Try.prog 115 [.one (.bor (.v 100000) [(0, 0)] 0 none), .one (.lit (.string s))] E (putQ l s) := by
  unfold putQ
  refine AC_of_swp (n := 47) (rs := [.tmp 4]) hf115 rfl rfl rfl rfl rfl ?_
  repeat' (first
    | refine swp_seq ?_ | refine swp_region ?_ | refine swp_block ?_ | refine swp_skip ?_ | refine swp_ret ?_ | refine swp_exit ?_
    | (refine swp_cond (by simp -implicitDefEqProofs only [go_sem, Nat.reduceLT, Nat.reduceEqDiff, Nat.reduceAdd, Nat.reduceLeDiff, Nat.reduceMul, Nat.reduceSub, Int.reduceEq, reduceCtorEq, reduceIte, *] <;> rfl) (fun h => ?_) (fun h => ?_) <;> try simp only [Int.ofNat_lt, Int.ofNat_le, gdV, decide_eq_true_eq, decide_eq_false_iff_not, Bool.not_eq_true', Bool.not_eq_false', reduceCtorEq, Bool.true_eq_false, Bool.false_eq_true] at h)
    | simp -implicitDefEqProofs only [go_sem, Nat.reduceLT, Nat.reduceEqDiff, Nat.reduceAdd, Nat.reduceLeDiff, Nat.reduceMul, Nat.reduceSub, Int.reduceEq, reduceCtorEq, reduceIte, *]
    | (refine fork_intro (fun h => ?_) (fun h => ?_) <;> try simp only [Int.ofNat_lt, Int.ofNat_le, gdV, decide_eq_true_eq, decide_eq_false_iff_not, Bool.not_eq_true', Bool.not_eq_false', reduceCtorEq, Bool.true_eq_false, Bool.false_eq_true] at h))
  refine swp_loop (ι := { k : Nat // k ≤ l.length }) (fun k => fr 47 [.one (.bor (.v 100000) [(0, 0)] 0 none), .one (.lit (.string s)), .none, .none, .none, .one (.lit (.int .i64 ((k.1 : Int) : Int)))] [(100000, false, [.sl true 1 (l.map strRow)])]) (fun k => l.length - k.1) ⟨0, Nat.zero_le _⟩ ?_ ?_
  · refine le_fr ?_ ?_ ?_ ?_ <;> simp -implicitDefEqProofs only [go_sem, Nat.reduceLT, Nat.reduceEqDiff, Nat.reduceAdd, Nat.reduceLeDiff, Nat.reduceMul, Nat.reduceSub, Int.reduceEq, reduceCtorEq, reduceIte, *] <;> first | rfl | (rw [wrap64 (by omega) (by omega)]; rfl) | (simp; done) | exact ⟨rfl, rfl⟩ | (refine ⟨rfl, ?_⟩; rw [wrap64 (by omega) (by omega)]; rfl)
  rintro ⟨k, hk⟩
  simp only
  have hw : IntKind.i64.wrap ((k : Int) + 1) = ((k + 1 : Nat) : Int) := by rw [wrap64 (by omega) (by omega)]; omega
  have hA : (l.length + 1) * 16 ≤ 140737488355328 := by omega
  have hB : l.length + 1 ≤ 9223372036854775807 := by omega
  have e3 : List.drop k (List.take l.length (l.map strRow)) = (l.drop k).map strRow := by rw [List.take_of_length_le (by simp), List.map_drop]
  have hall := srow_ok (l.drop k)
  simp only [D.okF] at hall
  have hdl : (l.drop k).length = l.length - k := List.length_drop ..
  have hC : (l.length - k) * 16 ≤ 140737488355328 := by omega
  have hD : l.length - k ≤ 9223372036854775807 := by omega
  have e4 : List.take k (l.map strRow) = (l.take k).map strRow := by rw [List.map_take]
  have hdt : (l.take k).length = k := by rw [List.length_take]; omega
  have e5 : (l.take k).map strRow ++ [[.lit (.string s)]] = (l.take k ++ [s]).map strRow := by simp [strRow]
  have hds : (l.take k ++ [s]).length = k + 1 := by simp; omega
  have e6 : (l.take k ++ [s]).map strRow ++ (l.drop k).map strRow = (l.take k ++ [s] ++ l.drop k).map strRow := by simp
  have hF : (k + 1) * 16 ≤ 140737488355328 := by omega
  have hF2 : k ≤ 9223372036854775806 := by omega
  have hG : (k + 1 + (l.length - k)) * 16 ≤ 140737488355328 := by omega
  have hG2 : k + 1 + (l.length - k) ≤ 9223372036854775807 := by omega
  repeat' (first
    | (refine swp_owp7 ?_; refine owp_run 3 ?_; simp -implicitDefEqProofs only [go_sem, Nat.reduceLT, Nat.reduceEqDiff, Nat.reduceAdd, Nat.reduceLeDiff, Nat.reduceMul, Nat.reduceSub, Int.reduceEq, reduceCtorEq, reduceIte, List.take_succ_cons, List.take_zero, List.drop_succ_cons, List.drop_zero, *])
    | (refine owp_front 41 (.v 100000) 0 0 k (by simp) (by simp -implicitDefEqProofs only [go_sem, Nat.reduceLT, Nat.reduceEqDiff, Nat.reduceAdd, Nat.reduceLeDiff, Nat.reduceMul, Nat.reduceSub, Int.reduceEq, reduceCtorEq, reduceIte, *] <;> rfl) (by simp -implicitDefEqProofs only [go_sem, Nat.reduceLT, Nat.reduceEqDiff, Nat.reduceAdd, Nat.reduceLeDiff, Nat.reduceMul, Nat.reduceSub, Int.reduceEq, reduceCtorEq, reduceIte, *]) (by simp -implicitDefEqProofs only [go_sem, Nat.reduceLT, Nat.reduceEqDiff, Nat.reduceAdd, Nat.reduceLeDiff, Nat.reduceMul, Nat.reduceSub, Int.reduceEq, reduceCtorEq, reduceIte, *] <;> rfl) (by simp; omega) ?_; refine owp_all ?_; simp -implicitDefEqProofs only [go_sem, Nat.reduceLT, Nat.reduceEqDiff, Nat.reduceAdd, Nat.reduceLeDiff, Nat.reduceMul, Nat.reduceSub, Int.reduceEq, reduceCtorEq, reduceIte, St.front, *])
    | refine swp_seq ?_ | refine swp_region ?_ | refine swp_block ?_ | refine swp_skip ?_ | refine swp_ret ?_ | refine swp_exit ?_
    | (refine swp_cond (by simp -implicitDefEqProofs only [go_sem, Nat.reduceLT, Nat.reduceEqDiff, Nat.reduceAdd, Nat.reduceLeDiff, Nat.reduceMul, Nat.reduceSub, Int.reduceEq, reduceCtorEq, reduceIte, *] <;> rfl) (fun h => ?_) (fun h => ?_) <;> try simp only [Int.ofNat_lt, Int.ofNat_le, gdV, decide_eq_true_eq, decide_eq_false_iff_not, Bool.not_eq_true', Bool.not_eq_false', reduceCtorEq, Bool.true_eq_false, Bool.false_eq_true] at h)
    | simp -implicitDefEqProofs only [go_sem, Nat.reduceLT, Nat.reduceEqDiff, Nat.reduceAdd, Nat.reduceLeDiff, Nat.reduceMul, Nat.reduceSub, Int.reduceEq, reduceCtorEq, reduceIte, *]
    | (refine fork_intro (fun h => ?_) (fun h => ?_) <;> try simp only [Int.ofNat_lt, Int.ofNat_le, gdV, decide_eq_true_eq, decide_eq_false_iff_not, Bool.not_eq_true', Bool.not_eq_false', reduceCtorEq, Bool.true_eq_false, Bool.false_eq_true] at h))
  all_goals first
    | (refine ⟨⟨k + 1, by omega⟩, by show l.length - (k + 1) < l.length - k; omega, ?_⟩
       simp only
       refine le_fr ?_ ?_ ?_ ?_ <;> simp -implicitDefEqProofs only [go_sem, Nat.reduceLT, Nat.reduceEqDiff, Nat.reduceAdd, Nat.reduceLeDiff, Nat.reduceMul, Nat.reduceSub, Int.reduceEq, reduceCtorEq, reduceIte, *] <;> first | rfl | (rw [wrap64 (by omega) (by omega)]; rfl) | (simp; done) | exact ⟨rfl, rfl⟩ | (refine ⟨rfl, ?_⟩; rw [wrap64 (by omega) (by omega)]; rfl))
    | exact ⟨by simp, l, _, rfl, by omega, fun t ht => .inl ht, fresh_dead, rfl⟩
    | exact ⟨by simp, l.take k ++ [s] ++ l.drop k, _, rfl, by rw [List.length_append, hds, hdl]; omega, fun t ht => (List.mem_append.1 ht).elim (fun h => (List.mem_append.1 h).elim (fun h => .inl (List.mem_of_mem_take h)) (fun h => .inr (by simpa using h))) (fun h => .inl (List.mem_of_mem_drop h)), fresh_dead, rfl⟩
    | skip
end Go.Proofs.Ytlphbpjejdhaoaa
