/- What the laws of folding draw and compare. No condition. -/
import Derived.Test.YtlphbpjejdhaoaaM6
import Derived.Test.YtlphbpjejdhaoaaN1
import Derived.Test.YtlphbpjejdhaoaaH4
open Go Go.AI Go.Proofs
set_option maxRecDepth 100000
set_option maxHeartbeats 4000000
set_option linter.unusedSimpArgs false
set_option linter.unusedVariables false
namespace Go.Proofs.Ytlphbpjejdhaoaa
attribute [local irreducible] awpOps opA callA Then Fork SWP
theorem c2020 (c : List Nat) (hc : ∀ x ∈ c, x < 256) (hlc : c.length ≤ 140737488355328) (E) : AC Try.prog 20 [.one (.sl false 1 (c.map brow))] E (fun sv _ => ∃ u, progB 40 u ∧ sv = .one (.sl true 3 ((u).map fc))) := by
  refine AC_of_swp (n := 6) (rs := [.tmp 2]) hf20 rfl rfl rfl rfl rfl ?_
  repeat' (first
    | refine swp_seq ?_ | refine swp_region ?_ | refine swp_block ?_ | refine swp_skip ?_ | refine swp_ret ?_ | refine swp_exit ?_
    | (refine swp_cond (by simp -implicitDefEqProofs only [go_sem, Nat.reduceLT, Nat.reduceEqDiff, Nat.reduceAdd, Nat.reduceLeDiff, Nat.reduceMul, Nat.reduceSub, Int.reduceEq, reduceCtorEq, reduceIte, *] <;> rfl) (fun h => ?_) (fun h => ?_) <;> try simp only [Int.ofNat_lt, Int.ofNat_le, gdV, decide_eq_true_eq, decide_eq_false_iff_not, Bool.not_eq_true', Bool.not_eq_false', reduceCtorEq, Bool.true_eq_false, Bool.false_eq_true] at h)
    | simp -implicitDefEqProofs only [go_sem, Nat.reduceLT, Nat.reduceEqDiff, Nat.reduceAdd, Nat.reduceLeDiff, Nat.reduceMul, Nat.reduceSub, Int.reduceEq, reduceCtorEq, reduceIte, *]
    | (refine call_open (f := .func 35) (by simp -implicitDefEqProofs only [go_sem, Nat.reduceLT, Nat.reduceEqDiff, Nat.reduceAdd, Nat.reduceLeDiff, Nat.reduceMul, Nat.reduceSub, Int.reduceEq, reduceCtorEq, reduceIte, *] <;> first | rfl | exact ⟨rfl, rfl⟩) (by simp -implicitDefEqProofs only [go_sem, Nat.reduceLT, Nat.reduceEqDiff, Nat.reduceAdd, Nat.reduceLeDiff, Nat.reduceMul, Nat.reduceSub, Int.reduceEq, reduceCtorEq, reduceIte, *] <;> first | rfl | exact ⟨rfl, rfl⟩) (by simp -implicitDefEqProofs only [go_sem, Nat.reduceLT, Nat.reduceEqDiff, Nat.reduceAdd, Nat.reduceLeDiff, Nat.reduceMul, Nat.reduceSub, Int.reduceEq, reduceCtorEq, reduceIte, *]) trivial trivial he35 (c39 _ hc hlc) (fun v ds hQ => ?_); obtain ⟨b, hb, hQ⟩ := hQ; subst hQ)
    | (refine call_lendF 4 (f := .func 48) (by simp -implicitDefEqProofs only [go_sem, Nat.reduceLT, Nat.reduceEqDiff, Nat.reduceAdd, Nat.reduceLeDiff, Nat.reduceMul, Nat.reduceSub, Int.reduceEq, reduceCtorEq, reduceIte, *] <;> first | rfl | exact ⟨rfl, rfl⟩) (by simp -implicitDefEqProofs only [go_sem, Nat.reduceLT, Nat.reduceEqDiff, Nat.reduceAdd, Nat.reduceLeDiff, Nat.reduceMul, Nat.reduceSub, Int.reduceEq, reduceCtorEq, reduceIte, *] <;> first | rfl | exact ⟨rfl, rfl⟩) (by simp -implicitDefEqProofs only [go_sem, Nat.reduceLT, Nat.reduceEqDiff, Nat.reduceAdd, Nat.reduceLeDiff, Nat.reduceMul, Nat.reduceSub, Int.reduceEq, reduceCtorEq, reduceIte, *] <;> first | rfl | exact ⟨rfl, rfl⟩) (by simp -implicitDefEqProofs only [go_sem, Nat.reduceLT, Nat.reduceEqDiff, Nat.reduceAdd, Nat.reduceLeDiff, Nat.reduceMul, Nat.reduceSub, Int.reduceEq, reduceCtorEq, reduceIte, *] <;> first | rfl | exact ⟨rfl, rfl⟩) (by simp -implicitDefEqProofs only [go_sem, Nat.reduceLT, Nat.reduceEqDiff, Nat.reduceAdd, Nat.reduceLeDiff, Nat.reduceMul, Nat.reduceSub, Int.reduceEq, reduceCtorEq, reduceIte, *]) (by first | trivial | simp) (by first | trivial | simp) he48 (fun E hE => c2048 _ _ hb (by omega) E hE) (fun sv E' hQ => ?_); obtain ⟨u, p', hpu, hQ, hp1, hp2, hE'⟩ := hQ; subst hQ; refine ⟨_, hE', ?_⟩)
    | (refine fork_intro (fun h => ?_) (fun h => ?_) <;> try simp only [Int.ofNat_lt, Int.ofNat_le, gdV, decide_eq_true_eq, decide_eq_false_iff_not, Bool.not_eq_true', Bool.not_eq_false', reduceCtorEq, Bool.true_eq_false, Bool.false_eq_true] at h))
  all_goals exact ⟨by simp, u, hpu, rfl⟩

/-- A program's data, whatever its flags. -/
def isU (d : D) (u : List F) : Prop := d = .sl false 3 (u.map fc) ∨ d = .sl false 3 (u.map fcO)
theorem roUs {u : List F} : (D.sl false 1 [[D.sl false 3 (u.map fcO)]]).roN 3 = .sl false 1 [[.sl false 3 (u.map fc)]] := by
  rw [roN_sl]
  show D.sl false 1 [[D.roN 2 _]] = _
  rw [roO]
theorem c2017g (d1 d2 : D) (u v : List F) (h1 : isU d1 u) (h2 : isU d2 v) (hU : smallU u) (hV : smallU v) (E) : AC Try.prog 17 [.one (.sl false 1 [[d1]]), .one (.sl false 1 [[d2]])] E (fun sv _ => ∃ b : Bool, sv = .one (.lit (.bool b)) ∧ (u = v → b = true)) := by
  have base : AC Try.prog 17 [.one (.sl false 1 [[.sl false 3 (u.map fc)]]), .one (.sl false 1 [[.sl false 3 (v.map fc)]])] E (fun sv _ => ∃ b : Bool, sv = .one (.lit (.bool b)) ∧ (u = v → b = true)) :=
    AC.mono (c2017 [u] [v] ⟨by simp, fun x hx => by simp only [List.mem_singleton] at hx; subst hx; exact hU⟩ ⟨by simp, fun x hx => by simp only [List.mem_singleton] at hx; subst hx; exact hV⟩ E) fun sv E' h => by
      obtain ⟨b, h3, h4⟩ := h; exact ⟨b, h3, fun e => h4 (by rw [e])⟩
  rcases h1 with rfl | rfl <;> rcases h2 with rfl | rfl
  · exact base
  · exact AC.view2 2 base roUs
  · exact AC.view1 2 base roUs
  · exact AC.view1 2 (AC.view2 2 base roUs) roUs
end Go.Proofs.Ytlphbpjejdhaoaa
