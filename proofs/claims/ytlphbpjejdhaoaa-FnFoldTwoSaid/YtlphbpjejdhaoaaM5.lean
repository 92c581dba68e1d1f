/- What is drawn: programs. No condition. -/
import Derived.Test.YtlphbpjejdhaoaaM4
import Derived.Test.YtlphbpjejdhaoaaK5
open Go Go.AI Go.Proofs
set_option maxRecDepth 100000
set_option maxHeartbeats 4000000
set_option linter.unusedSimpArgs false
set_option linter.unusedVariables false
namespace Go.Proofs.Ytlphbpjejdhaoaa
attribute [local irreducible] awpOps opA callA Then Fork SWP

section
variable {P : Program} {ops : Array Oper} {σ : St}
theorem owp_frz {Q : St → Prop} {r : List Oper} (s : Nat) {sz : Nat} {rows : List (List D)} (hs : σ.sl s = .one (.sl true sz rows)) (h : OWP P ops Q r ((σ.setTop (.s s) 0 0 (.sl false sz rows)).bump (.s s) 0 0)) : OWP P ops Q r σ := owp_step (fun G a w hR => by
  obtain ⟨G', h1, h2, h3⟩ := hR.freezeK (.s s) 0 0
  have hc : cellIn (σ.rows (.s s)) (0, 0) = some (.sl true sz rows) := by simp [St.rows, hs, SV.rows, cellIn]
  have e : σ.freeze (.s s) 0 0 = (σ.setTop (.s s) 0 0 (.sl false sz rows)).bump (.s s) 0 0 := by simp only [St.freeze, hc]
  rw [e] at h1 h3
  exact ⟨G', h1, h2.toKf, h3⟩) h
theorem swp_fzT {Q : Exit → St → Prop} {c : Code} (k s : Nat) {sz : Nat} {rows : List (List D)} (hk : firstR c = some k) (hs : σ.sl s = .one (.sl true sz rows)) (h : SWP P c Q ((σ.setTop (.s s) 0 0 (.sl false sz rows)).bump (.s s) 0 0)) : SWP P c Q σ := by
  refine swp_freeze (.s s) 0 0 ?_
  have hc : cellIn (σ.rows (.s s)) (0, 0) = some (.sl true sz rows) := by simp [St.rows, hs, SV.rows, cellIn]
  have e : σ.freeze (.s s) 0 0 = (σ.setTop (.s s) 0 0 (.sl false sz rows)).bump (.s s) 0 0 := by simp only [St.freeze, hc]
  rw [e]; exact h
/-- A walk stands still here. -/
@[irreducible] def Hold (p : Prop) : Prop := p
theorem hold_out {p : Prop} (h : p) : Hold p := by unfold Hold; exact h
theorem hold_at {Q : Exit → St → Prop} {c : Code} (k : Nat) (hk : firstR c = some k) (h : Hold (SWP P c Q σ)) : SWP P c Q σ := by unfold Hold at h; exact h
end
theorem c2083 (a b : Int) (E) : AC Try.prog 83 [.one (.lit (.int .i64 a)), .one (.lit (.int .i64 b))] E (fun sv _ => sv = .one (.lit (.int .i64 (if a < b then a else b)))) := by
  refine AC_of_swp (n := 10) (rs := [.tmp 4]) hf83 rfl rfl rfl rfl rfl ?_
  repeat' (first
    | refine swp_seq ?_ | refine swp_region ?_ | refine swp_block ?_ | refine swp_skip ?_ | refine swp_ret ?_ | refine swp_exit ?_
    | (refine swp_cond (by simp -implicitDefEqProofs only [go_sem, Nat.reduceLT, Nat.reduceEqDiff, Nat.reduceAdd, Nat.reduceLeDiff, Nat.reduceMul, Nat.reduceSub, Int.reduceEq, reduceCtorEq, reduceIte, *] <;> rfl) (fun h => ?_) (fun h => ?_) <;> try simp only [Int.ofNat_lt, Int.ofNat_le, gdV, decide_eq_true_eq, decide_eq_false_iff_not, Bool.not_eq_true', Bool.not_eq_false', reduceCtorEq, Bool.true_eq_false, Bool.false_eq_true] at h)
    | simp -implicitDefEqProofs only [go_sem, Nat.reduceLT, Nat.reduceEqDiff, Nat.reduceAdd, Nat.reduceLeDiff, Nat.reduceMul, Nat.reduceSub, Int.reduceEq, reduceCtorEq, reduceIte, *]
    | (refine fork_intro (fun h => ?_) (fun h => ?_) <;> try simp only [Int.ofNat_lt, Int.ofNat_le, gdV, decide_eq_true_eq, decide_eq_false_iff_not, Bool.not_eq_true', Bool.not_eq_false', reduceCtorEq, Bool.true_eq_false, Bool.false_eq_true] at h))
  all_goals simp [*]
theorem mainP : progP 30 [(⟨⟨#[109, 97, 105, 110]⟩, false, [⟨2, 1, ⟨#[]⟩⟩, ⟨1, 0, ⟨#[]⟩⟩, ⟨7, 0, ⟨#[]⟩⟩]⟩ : F)] := ⟨⟨by simp, by simp⟩, fun f hf => by
  simp only [List.mem_singleton] at hf; subst hf
  refine ⟨by decide, ⟨by simp, by simp⟩, fun x hx => ?_⟩
  simp only [List.mem_cons, List.not_mem_nil, or_false] at hx
  rcases hx with rfl | rfl | rfl <;> exact em16⟩
def progQ (b : List Nat) (p n c : Nat) (sv : SV) (E' : Nat → Option (Bool × List D)) : Prop := ∃ (u : List F) (p' : Nat), progP n u ∧ sv = .one (.sl true 3 ((u).map fc)) ∧ p ≤ p' ∧ p' ≤ p + c ∧ E' 100000 = RD b p'
theorem c2068 (b : List Nat) (p : Nat) (hb : okB b) (hp : p ≤ 1015000) (E) (hE : E 100000 = RD b p) : AC Try.prog 68 [.one (.addr (.v 100000) [] 0 0 0)] E (progQ b p 30 851) := by
  unfold progQ
  unfold RD at hE
  have hm16 : (⟨#[109, 97, 105, 110]⟩ : ByteArray).size ≤ 16 := by decide
  have hm0 : ¬ (⟨#[109, 97, 105, 110]⟩ : ByteArray) = ⟨#[]⟩ := by decide
  refine AC_of_swp (n := 25) (rs := [.tmp 2]) hf68 rfl rfl rfl rfl rfl ?_
  repeat' (first
    | (refine swp_owp (id := 1) ?_; refine owp_run 3 ?_; simp -implicitDefEqProofs only [go_sem, Nat.reduceLT, Nat.reduceEqDiff, Nat.reduceAdd, Nat.reduceLeDiff, Nat.reduceMul, Nat.reduceSub, Int.reduceEq, reduceCtorEq, reduceIte, List.take_succ_cons, List.take_zero, List.drop_succ_cons, List.drop_zero, *])
    | (refine owp_frz 8 (by simp -implicitDefEqProofs only [go_sem, Nat.reduceLT, Nat.reduceEqDiff, Nat.reduceAdd, Nat.reduceLeDiff, Nat.reduceMul, Nat.reduceSub, Int.reduceEq, reduceCtorEq, reduceIte, *] <;> rfl) ?_; refine owp_run 1 ?_; simp -implicitDefEqProofs only [go_sem, Nat.reduceLT, Nat.reduceEqDiff, Nat.reduceAdd, Nat.reduceLeDiff, Nat.reduceMul, Nat.reduceSub, Int.reduceEq, reduceCtorEq, reduceIte, List.take_succ_cons, List.take_zero, List.drop_succ_cons, List.drop_zero, *])
    | (refine owp_frz 9 (by simp -implicitDefEqProofs only [go_sem, Nat.reduceLT, Nat.reduceEqDiff, Nat.reduceAdd, Nat.reduceLeDiff, Nat.reduceMul, Nat.reduceSub, Int.reduceEq, reduceCtorEq, reduceIte, *] <;> rfl) ?_; refine owp_all ?_; simp -implicitDefEqProofs only [go_sem, Nat.reduceLT, Nat.reduceEqDiff, Nat.reduceAdd, Nat.reduceLeDiff, Nat.reduceMul, Nat.reduceSub, Int.reduceEq, reduceCtorEq, reduceIte, List.take_succ_cons, List.take_zero, List.drop_succ_cons, List.drop_zero, *])
    | refine swp_fzT 2 3 rfl rfl ?_
    | refine swp_seq ?_ | refine swp_region ?_ | refine swp_block ?_ | refine swp_skip ?_ | refine swp_ret ?_ | refine swp_exit ?_
    | (refine swp_cond (by simp -implicitDefEqProofs only [go_sem, Nat.reduceLT, Nat.reduceEqDiff, Nat.reduceAdd, Nat.reduceLeDiff, Nat.reduceMul, Nat.reduceSub, Int.reduceEq, reduceCtorEq, reduceIte, *] <;> rfl) (fun h => ?_) (fun h => ?_) <;> try simp only [Int.ofNat_lt, Int.ofNat_le, gdV, decide_eq_true_eq, decide_eq_false_iff_not, Bool.not_eq_true', Bool.not_eq_false', reduceCtorEq, Bool.true_eq_false, Bool.false_eq_true] at h)
    | simp -implicitDefEqProofs only [go_sem, Nat.reduceLT, Nat.reduceEqDiff, Nat.reduceAdd, Nat.reduceLeDiff, Nat.reduceMul, Nat.reduceSub, Int.reduceEq, reduceCtorEq, reduceIte, *]
    | (refine call_lendF 100000 (f := .func 94) (by simp -implicitDefEqProofs only [go_sem, Nat.reduceLT, Nat.reduceEqDiff, Nat.reduceAdd, Nat.reduceLeDiff, Nat.reduceMul, Nat.reduceSub, Int.reduceEq, reduceCtorEq, reduceIte, *] <;> first | rfl | exact ⟨rfl, rfl⟩) (by simp -implicitDefEqProofs only [go_sem, Nat.reduceLT, Nat.reduceEqDiff, Nat.reduceAdd, Nat.reduceLeDiff, Nat.reduceMul, Nat.reduceSub, Int.reduceEq, reduceCtorEq, reduceIte, *] <;> first | rfl | exact ⟨rfl, rfl⟩) (by simp -implicitDefEqProofs only [go_sem, Nat.reduceLT, Nat.reduceEqDiff, Nat.reduceAdd, Nat.reduceLeDiff, Nat.reduceMul, Nat.reduceSub, Int.reduceEq, reduceCtorEq, reduceIte, *] <;> first | rfl | exact ⟨rfl, rfl⟩) (by simp -implicitDefEqProofs only [go_sem, Nat.reduceLT, Nat.reduceEqDiff, Nat.reduceAdd, Nat.reduceLeDiff, Nat.reduceMul, Nat.reduceSub, Int.reduceEq, reduceCtorEq, reduceIte, *] <;> first | rfl | exact ⟨rfl, rfl⟩) (by simp -implicitDefEqProofs only [go_sem, Nat.reduceLT, Nat.reduceEqDiff, Nat.reduceAdd, Nat.reduceLeDiff, Nat.reduceMul, Nat.reduceSub, Int.reduceEq, reduceCtorEq, reduceIte, *]) (by first | trivial | simp) (by first | trivial | simp) he94 (fun E hE => c2094 _ _ hb (by omega) E hE) (fun sv E' hQ => ?_); obtain ⟨us, p1, hU, hQ, hp1, hp2, hE'⟩ := hQ; subst hQ; refine ⟨_, hE', ?_⟩)
    | (refine call_free (f := .func 93) (by simp -implicitDefEqProofs only [go_sem, Nat.reduceLT, Nat.reduceEqDiff, Nat.reduceAdd, Nat.reduceLeDiff, Nat.reduceMul, Nat.reduceSub, Int.reduceEq, reduceCtorEq, reduceIte] <;> rfl) (by simp -implicitDefEqProofs only [go_sem, Nat.reduceLT, Nat.reduceEqDiff, Nat.reduceAdd, Nat.reduceLeDiff, Nat.reduceMul, Nat.reduceSub, Int.reduceEq, reduceCtorEq, reduceIte] <;> rfl) (by simp -implicitDefEqProofs only [go_sem, Nat.reduceLT, Nat.reduceEqDiff, Nat.reduceAdd, Nat.reduceLeDiff, Nat.reduceMul, Nat.reduceSub, Int.reduceEq, reduceCtorEq, reduceIte]) (by first | trivial | simp) he93 (fun E => c2093 _ hU E) (fun sv E' hQ => ?_); obtain ⟨ws, hQ, hW⟩ := hQ; subst hQ)
    | (refine call_lendF 100000 (f := .func 92) (by simp -implicitDefEqProofs only [go_sem, Nat.reduceLT, Nat.reduceEqDiff, Nat.reduceAdd, Nat.reduceLeDiff, Nat.reduceMul, Nat.reduceSub, Int.reduceEq, reduceCtorEq, reduceIte, *] <;> first | rfl | exact ⟨rfl, rfl⟩) (by simp -implicitDefEqProofs only [go_sem, Nat.reduceLT, Nat.reduceEqDiff, Nat.reduceAdd, Nat.reduceLeDiff, Nat.reduceMul, Nat.reduceSub, Int.reduceEq, reduceCtorEq, reduceIte, *] <;> first | rfl | exact ⟨rfl, rfl⟩) (by simp -implicitDefEqProofs only [go_sem, Nat.reduceLT, Nat.reduceEqDiff, Nat.reduceAdd, Nat.reduceLeDiff, Nat.reduceMul, Nat.reduceSub, Int.reduceEq, reduceCtorEq, reduceIte, *] <;> first | rfl | exact ⟨rfl, rfl⟩) (by simp -implicitDefEqProofs only [go_sem, Nat.reduceLT, Nat.reduceEqDiff, Nat.reduceAdd, Nat.reduceLeDiff, Nat.reduceMul, Nat.reduceSub, Int.reduceEq, reduceCtorEq, reduceIte, *] <;> first | rfl | exact ⟨rfl, rfl⟩) (by simp -implicitDefEqProofs only [go_sem, Nat.reduceLT, Nat.reduceEqDiff, Nat.reduceAdd, Nat.reduceLeDiff, Nat.reduceMul, Nat.reduceSub, Int.reduceEq, reduceCtorEq, reduceIte, *]) (by first | trivial | simp) (by first | trivial | simp) he92 (fun E hE => c2092 _ _ _ _ hb (by omega) hW hm16 hm0 E hE) (fun sv E' hQ => ?_); obtain ⟨us2, p2, hU2, hQ, hp3, hp4, hE'⟩ := hQ; subst hQ; refine ⟨_, hE', ?_⟩)
    | (refine call_free (f := .func 95) (by simp -implicitDefEqProofs only [go_sem, Nat.reduceLT, Nat.reduceEqDiff, Nat.reduceAdd, Nat.reduceLeDiff, Nat.reduceMul, Nat.reduceSub, Int.reduceEq, reduceCtorEq, reduceIte] <;> rfl) (by simp -implicitDefEqProofs only [go_sem, Nat.reduceLT, Nat.reduceEqDiff, Nat.reduceAdd, Nat.reduceLeDiff, Nat.reduceMul, Nat.reduceSub, Int.reduceEq, reduceCtorEq, reduceIte] <;> rfl) (by simp -implicitDefEqProofs only [go_sem, Nat.reduceLT, Nat.reduceEqDiff, Nat.reduceAdd, Nat.reduceLeDiff, Nat.reduceMul, Nat.reduceSub, Int.reduceEq, reduceCtorEq, reduceIte]) (by first | trivial | simp) he95 (fun E => c2095 _ _ hU2 E) (fun sv E' hQ => ?_); rcases hQ with hQ | ⟨u, hQ, hpp⟩ <;> subst hQ <;> simp only [walkSV])
    | (refine fork_intro (fun h => ?_) (fun h => ?_) <;> try simp only [Int.ofNat_lt, Int.ofNat_le, gdV, decide_eq_true_eq, decide_eq_false_iff_not, Bool.not_eq_true', Bool.not_eq_false', reduceCtorEq, Bool.true_eq_false, Bool.false_eq_true] at h))
  · exact ⟨by simp, _, p2, mainP, rfl, by omega, by omega, rfl⟩
  · exact ⟨by simp, u, p2, hpp, rfl, by omega, by omega, rfl⟩
theorem zzP {u : List F} (h : progP 30 u) (h0 : 0 < u.length) : progP 31 (u ++ [(⟨⟨#[122, 122]⟩, false, [⟨3, 0, u[0].nm⟩, ⟨6, 0, ⟨#[]⟩⟩]⟩ : F)]) := ⟨⟨by simp, by have := h.1.2; simp; omega⟩, fun f hf => (List.mem_append.1 hf).elim (h.2 f) (fun e => by
  simp only [List.mem_singleton] at e; subst e
  refine ⟨(by decide : (⟨#[122, 122]⟩ : ByteArray).size ≤ 16), ⟨by simp, by simp⟩, fun x hx => ?_⟩
  simp only [List.mem_cons, List.not_mem_nil, or_false] at hx
  rcases hx with rfl | rfl
  · exact (h.2 _ (List.getElem_mem h0)).1
  · exact em16)⟩
theorem nilP {v : List F} (h0 : 0 < v.length) : (((v.map fc).set 0 [.lit (.string v[0].nm), .lit (.bool v[0].wk), .sl true 3 []]).map fun r => r.map D.ro) = (v.set 0 ⟨v[0].nm, v[0].wk, []⟩).map fc := by
  rw [List.map_set, fc_ro, List.map_set]; rfl
def progB (n : Nat) (u : List F) : Prop := u.length ≤ n ∧ ∀ f ∈ u, smH f
theorem snB {v : List F} {f : F} (h : progP 31 v) (hf : smG f) : progB 40 (v ++ [f]) := ⟨by have := h.1.2; simp; omega, fun g hg => (List.mem_append.1 hg).elim (fun h1 => smH_of (h.2 g h1)) (fun e => by simp only [List.mem_singleton] at e; subst e; exact smH_of hf)⟩
theorem zxB {v : List F} (h : progP 31 v) : progB 40 (v ++ [(⟨⟨#[122, 120]⟩, false, [⟨4, 0, ⟨#[110, 111, 119, 104]⟩⟩]⟩ : F)]) := snB h ⟨(by decide : (⟨#[122, 120]⟩ : ByteArray).size ≤ 16), ⟨by simp, by simp⟩, fun x hx => by simp only [List.mem_singleton] at hx; subst hx; exact (by decide : (⟨#[110, 111, 119, 104]⟩ : ByteArray).size ≤ 16)⟩
theorem seB {v : List F} (h : progP 31 v) (h0 : 0 < v.length) : progB 40 (v.set 0 ⟨v[0].nm, v[0].wk, []⟩) := ⟨by have := h.1.2; simp; omega, fun g hg => (List.mem_or_eq_of_mem_set hg).elim (fun h1 => smH_of (h.2 g h1)) (fun e => by subst e; exact ⟨(h.2 _ (List.getElem_mem h0)).1, by simp, fun x hx => by simp at hx⟩)⟩
def bentQ2 (b : List Nat) (p n c : Nat) (sv : SV) (E' : Nat → Option (Bool × List D)) : Prop := ∃ (u : List F) (p' : Nat), progB n u ∧ sv = .one (.sl true 3 ((u).map fc)) ∧ p ≤ p' ∧ p' ≤ p + c ∧ E' 100000 = RD b p'
theorem c2034 (b : List Nat) (p : Nat) (hb : okB b) (hp : p ≤ 1010000) (E) (hE : E 100000 = RD b p) : AC Try.prog 34 [.one (.addr (.v 100000) [] 0 0 0)] E (bentQ2 b p 40 860) := by
  unfold bentQ2
  unfold RD at hE
  have e0 : (0 : Int) ≤ 0 := Int.le_refl _
  have e1 : Int.toNat 0 = 0 := rfl
  have hul : ∀ u : List F, progP 30 u → u.length ≤ 1048576 := fun u h => by have := h.1.2; omega
  refine AC_of_swp (n := 53) (rs := [.tmp 2]) hf34 rfl rfl rfl rfl rfl ?_
  repeat' (first
    | refine hold_at 4 rfl ?_
    | refine swp_seq ?_ | refine swp_region ?_ | refine swp_block ?_ | refine swp_skip ?_ | refine swp_ret ?_ | refine swp_exit ?_
    | (refine swp_cond (by simp -implicitDefEqProofs only [go_sem, Nat.reduceLT, Nat.reduceEqDiff, Nat.reduceAdd, Nat.reduceLeDiff, Nat.reduceMul, Nat.reduceSub, Int.reduceEq, reduceCtorEq, reduceIte, *] <;> rfl) (fun h => ?_) (fun h => ?_) <;> try simp only [Int.ofNat_lt, Int.ofNat_le, gdV, decide_eq_true_eq, decide_eq_false_iff_not, Bool.not_eq_true', Bool.not_eq_false', reduceCtorEq, Bool.true_eq_false, Bool.false_eq_true] at h)
    | simp -implicitDefEqProofs only [go_sem, Nat.reduceLT, Nat.reduceEqDiff, Nat.reduceAdd, Nat.reduceLeDiff, Nat.reduceMul, Nat.reduceSub, Int.reduceEq, reduceCtorEq, reduceIte, *]
    | (refine call_lendF 100000 (f := .func 68) (by simp -implicitDefEqProofs only [go_sem, Nat.reduceLT, Nat.reduceEqDiff, Nat.reduceAdd, Nat.reduceLeDiff, Nat.reduceMul, Nat.reduceSub, Int.reduceEq, reduceCtorEq, reduceIte, *] <;> first | rfl | exact ⟨rfl, rfl⟩) (by simp -implicitDefEqProofs only [go_sem, Nat.reduceLT, Nat.reduceEqDiff, Nat.reduceAdd, Nat.reduceLeDiff, Nat.reduceMul, Nat.reduceSub, Int.reduceEq, reduceCtorEq, reduceIte, *] <;> first | rfl | exact ⟨rfl, rfl⟩) (by simp -implicitDefEqProofs only [go_sem, Nat.reduceLT, Nat.reduceEqDiff, Nat.reduceAdd, Nat.reduceLeDiff, Nat.reduceMul, Nat.reduceSub, Int.reduceEq, reduceCtorEq, reduceIte, *] <;> first | rfl | exact ⟨rfl, rfl⟩) (by simp -implicitDefEqProofs only [go_sem, Nat.reduceLT, Nat.reduceEqDiff, Nat.reduceAdd, Nat.reduceLeDiff, Nat.reduceMul, Nat.reduceSub, Int.reduceEq, reduceCtorEq, reduceIte, *] <;> first | rfl | exact ⟨rfl, rfl⟩) (by simp -implicitDefEqProofs only [go_sem, Nat.reduceLT, Nat.reduceEqDiff, Nat.reduceAdd, Nat.reduceLeDiff, Nat.reduceMul, Nat.reduceSub, Int.reduceEq, reduceCtorEq, reduceIte, *]) (by first | trivial | simp) (by first | trivial | simp) he68 (fun E hE => c2068 _ _ hb (by omega) E hE) (fun sv E' hQ => ?_); obtain ⟨u, p1, hpu, hQ, hp1, hp2, hE'⟩ := hQ; subst hQ; have hu1 := hpu.1.1; have hu2 := hpu.1.2; have hu0 : 0 < u.length := hu1; have hua : (u.length + 1) * 48 ≤ 140737488355328 := (by omega); have hub : u.length + 1 ≤ 9223372036854775807 := (by omega); refine ⟨_, hE', ?_⟩)
    | (refine call_lendF 100000 (f := .func 61) (by simp -implicitDefEqProofs only [go_sem, Nat.reduceLT, Nat.reduceEqDiff, Nat.reduceAdd, Nat.reduceLeDiff, Nat.reduceMul, Nat.reduceSub, Int.reduceEq, reduceCtorEq, reduceIte, *] <;> first | rfl | exact ⟨rfl, rfl⟩) (by simp -implicitDefEqProofs only [go_sem, Nat.reduceLT, Nat.reduceEqDiff, Nat.reduceAdd, Nat.reduceLeDiff, Nat.reduceMul, Nat.reduceSub, Int.reduceEq, reduceCtorEq, reduceIte, *] <;> first | rfl | exact ⟨rfl, rfl⟩) (by simp -implicitDefEqProofs only [go_sem, Nat.reduceLT, Nat.reduceEqDiff, Nat.reduceAdd, Nat.reduceLeDiff, Nat.reduceMul, Nat.reduceSub, Int.reduceEq, reduceCtorEq, reduceIte, *] <;> first | rfl | exact ⟨rfl, rfl⟩) (by simp -implicitDefEqProofs only [go_sem, Nat.reduceLT, Nat.reduceEqDiff, Nat.reduceAdd, Nat.reduceLeDiff, Nat.reduceMul, Nat.reduceSub, Int.reduceEq, reduceCtorEq, reduceIte, *] <;> first | rfl | exact ⟨rfl, rfl⟩) (by simp -implicitDefEqProofs only [go_sem, Nat.reduceLT, Nat.reduceEqDiff, Nat.reduceAdd, Nat.reduceLeDiff, Nat.reduceMul, Nat.reduceSub, Int.reduceEq, reduceCtorEq, reduceIte, *]) (by first | trivial | simp) (by first | trivial | simp) he61 (fun E hE => c78 _ _ _ hb (by omega) E hE) (fun sv E' hQ => ?_); obtain ⟨x, hQ, hx, hE'⟩ := hQ; subst hQ; refine ⟨_, hE', ?_⟩)
    | (refine call_view (f := .func 40) (by simp -implicitDefEqProofs only [go_sem, Nat.reduceLT, Nat.reduceEqDiff, Nat.reduceAdd, Nat.reduceLeDiff, Nat.reduceMul, Nat.reduceSub, Int.reduceEq, reduceCtorEq, reduceIte] <;> rfl) (by simp -implicitDefEqProofs only [go_sem, Nat.reduceLT, Nat.reduceEqDiff, Nat.reduceAdd, Nat.reduceLeDiff, Nat.reduceMul, Nat.reduceSub, Int.reduceEq, reduceCtorEq, reduceIte] <;> rfl) (by simp -implicitDefEqProofs only [go_sem, Nat.reduceLT, Nat.reduceEqDiff, Nat.reduceAdd, Nat.reduceLeDiff, Nat.reduceMul, Nat.reduceSub, Int.reduceEq, reduceCtorEq, reduceIte]) (by first | trivial | simp) he40 (fun E => c88x _ _ (hul _ hpu) E) (fun sv E' hQ => ?_); obtain ⟨r, hQ, hr⟩ := hQ; subst hQ; have hr2 : r < 0 ∨ ¬ r < 0 := (by omega); rcases hr2 with hr2 | hr2)
    | (refine fork_intro (fun h => ?_) (fun h => ?_) <;> try simp only [Int.ofNat_lt, Int.ofNat_le, gdV, decide_eq_true_eq, decide_eq_false_iff_not, Bool.not_eq_true', Bool.not_eq_false', reduceCtorEq, Bool.true_eq_false, Bool.false_eq_true] at h))
  all_goals refine hold_out ?_
  all_goals first
    | (refine swp_le (τ := (fr 53 [.one (.addr (.v 100000) [] 0 0 0), .none, .none, .one (.sl true 3 ((u).map fc))] [(100000, true, [.sl false 1 (b.map brow), .lit (.int .i64 ((p1 + 1 : Nat) : Int))])])) ?_ ?_
       (· refine le_fr ?_ ?_ ?_ ?_ <;> simp -implicitDefEqProofs only [go_sem, Nat.reduceLT, Nat.reduceEqDiff, Nat.reduceAdd, Nat.reduceLeDiff, Nat.reduceMul, Nat.reduceSub, Int.reduceEq, reduceCtorEq, reduceIte, *] <;> first | rfl | (rw [wrap64 (by omega) (by omega)]; rfl) | (simp; done) | exact ⟨rfl, rfl⟩ | (refine ⟨rfl, ?_⟩; rw [wrap64 (by omega) (by omega)]; rfl))
       have hv : progP 31 u := ⟨⟨hpu.1.1, by omega⟩, hpu.2⟩
       clear hpu hu1 hu2 hu0 hua hub
       generalize u = v at hv ⊢)
    | (have e2 : u.map fc ++ [[.lit (.string ⟨#[122, 122]⟩), .lit (.bool false), .sl false 3 [[.lit (.int .i64 3), .lit (.int .i64 0), .lit (.string u[0].nm)], [.lit (.int .i64 6), .lit (.int .i64 0), .lit (.string ⟨#[]⟩)]]]] = (u ++ [(⟨⟨#[122, 122]⟩, false, [⟨3, 0, u[0].nm⟩, ⟨6, 0, ⟨#[]⟩⟩]⟩ : F)]).map fc := by simp [fc, ic]
       refine swp_le (τ := (fr 53 [.one (.addr (.v 100000) [] 0 0 0), .none, .none, .one (.sl true 3 ((u ++ [(⟨⟨#[122, 122]⟩, false, [⟨3, 0, u[0].nm⟩, ⟨6, 0, ⟨#[]⟩⟩]⟩ : F)]).map fc))] [(100000, true, [.sl false 1 (b.map brow), .lit (.int .i64 ((p1 + 1 : Nat) : Int))])])) ?_ ?_
       (· refine le_fr ?_ ?_ ?_ ?_ <;> simp -implicitDefEqProofs only [go_sem, Nat.reduceLT, Nat.reduceEqDiff, Nat.reduceAdd, Nat.reduceLeDiff, Nat.reduceMul, Nat.reduceSub, Int.reduceEq, reduceCtorEq, reduceIte, *] <;> first | rfl | (rw [wrap64 (by omega) (by omega)]; rfl) | (simp; done) | exact ⟨rfl, rfl⟩ | (refine ⟨rfl, ?_⟩; rw [wrap64 (by omega) (by omega)]; rfl))
       have hv : progP 31 (u ++ [(⟨⟨#[122, 122]⟩, false, [⟨3, 0, u[0].nm⟩, ⟨6, 0, ⟨#[]⟩⟩]⟩ : F)]) := zzP hpu hu0
       clear e2
       generalize u ++ [(⟨⟨#[122, 122]⟩, false, [⟨3, 0, u[0].nm⟩, ⟨6, 0, ⟨#[]⟩⟩]⟩ : F)] = v at hv ⊢
       clear hpu hu1 hu2 hu0 hua hub)
  all_goals
    generalize hp1' : p1 + 1 = p2
    have hp3 : p ≤ p2 ∧ p2 ≤ p + 852 := by omega
    clear hp1' hE' hE hul
    have hv1 := hv.1.1
    have hv2 := hv.1.2
    have hv0 : 0 < v.length := hv1
    have hva : (v.length + 1) * 48 ≤ 140737488355328 := by omega
    have hvb : v.length + 1 ≤ 9223372036854775807 := by omega
    have e2 : v.map fc ++ [[.lit (.string ⟨#[122, 120]⟩), .lit (.bool false), .sl false 3 [[.lit (.int .i64 4), .lit (.int .i64 0), .lit (.string ⟨#[110, 111, 119, 104]⟩)]]]] = (v ++ [(⟨⟨#[122, 120]⟩, false, [⟨4, 0, ⟨#[110, 111, 119, 104]⟩⟩]⟩ : F)]).map fc := by simp [fc, ic]
    have e3 : v.map fc ++ [[.lit (.string v[0].nm), .lit (.bool v[0].wk), .sl false 3 (v[0].bd.map ic)]] = (v ++ [v[0]]).map fc := by simp [fc]
    have hget : ((v.map fc).set 0 [.lit (.string v[0].nm), .lit (.bool v[0].wk), .nil])[0]? = some [.lit (.string v[0].nm), .lit (.bool v[0].wk), .nil] := by simp [hv0]
    have hset := nilP hv0
    have ht0 : (v.map fc).take 0 = [] := rfl
    repeat' (first
      | (refine swp_nilAt 13 3 0 2 3 (rows := (v.map fc).set 0 [.lit (.string v[0].nm), .lit (.bool v[0].wk), .nil]) (row := [.lit (.string v[0].nm), .lit (.bool v[0].wk), .nil]) rfl rfl hget rfl ?_; simp -implicitDefEqProofs only [go_sem, Nat.reduceLT, Nat.reduceEqDiff, Nat.reduceAdd, Nat.reduceLeDiff, Nat.reduceMul, Nat.reduceSub, Int.reduceEq, reduceCtorEq, reduceIte, *])
      | (refine swp_fzAt 13 3 rfl rfl (rows' := (v.set 0 ⟨v[0].nm, v[0].wk, []⟩).map fc) hset ?_)
      | (refine swp_owp (id := 10) ?_; refine owp_run 2 ?_; simp -implicitDefEqProofs only [go_sem, Nat.reduceLT, Nat.reduceEqDiff, Nat.reduceAdd, Nat.reduceLeDiff, Nat.reduceMul, Nat.reduceSub, Int.reduceEq, reduceCtorEq, reduceIte, List.take_succ_cons, List.take_zero, List.drop_succ_cons, List.drop_zero, *])
      | (refine owp_front 46 (.s 3) 0 0 0 (by simp) (by simp -implicitDefEqProofs only [go_sem, Nat.reduceLT, Nat.reduceEqDiff, Nat.reduceAdd, Nat.reduceLeDiff, Nat.reduceMul, Nat.reduceSub, Int.reduceEq, reduceCtorEq, reduceIte, *] <;> rfl) (by simp -implicitDefEqProofs only [go_sem, Nat.reduceLT, Nat.reduceEqDiff, Nat.reduceAdd, Nat.reduceLeDiff, Nat.reduceMul, Nat.reduceSub, Int.reduceEq, reduceCtorEq, reduceIte, *] <;> rfl) (by simp -implicitDefEqProofs only [go_sem, Nat.reduceLT, Nat.reduceEqDiff, Nat.reduceAdd, Nat.reduceLeDiff, Nat.reduceMul, Nat.reduceSub, Int.reduceEq, reduceCtorEq, reduceIte, *] <;> rfl) (by simp) ?_; refine owp_all ?_; simp -implicitDefEqProofs only [go_sem, Nat.reduceLT, Nat.reduceEqDiff, Nat.reduceAdd, Nat.reduceLeDiff, Nat.reduceMul, Nat.reduceSub, Int.reduceEq, reduceCtorEq, reduceIte, St.front, *])
      | refine swp_seq ?_ | refine swp_region ?_ | refine swp_block ?_ | refine swp_skip ?_ | refine swp_ret ?_ | refine swp_exit ?_
      | (refine swp_cond (by simp -implicitDefEqProofs only [go_sem, Nat.reduceLT, Nat.reduceEqDiff, Nat.reduceAdd, Nat.reduceLeDiff, Nat.reduceMul, Nat.reduceSub, Int.reduceEq, reduceCtorEq, reduceIte, *] <;> rfl) (fun h => ?_) (fun h => ?_) <;> try simp only [Int.ofNat_lt, Int.ofNat_le, gdV, decide_eq_true_eq, decide_eq_false_iff_not, Bool.not_eq_true', Bool.not_eq_false', reduceCtorEq, Bool.true_eq_false, Bool.false_eq_true] at h)
      | simp -implicitDefEqProofs only [go_sem, Nat.reduceLT, Nat.reduceEqDiff, Nat.reduceAdd, Nat.reduceLeDiff, Nat.reduceMul, Nat.reduceSub, Int.reduceEq, reduceCtorEq, reduceIte, *]
      | (refine call_lendF 100000 (f := .func 61) (by simp -implicitDefEqProofs only [go_sem, Nat.reduceLT, Nat.reduceEqDiff, Nat.reduceAdd, Nat.reduceLeDiff, Nat.reduceMul, Nat.reduceSub, Int.reduceEq, reduceCtorEq, reduceIte, *] <;> first | rfl | exact ⟨rfl, rfl⟩) (by simp -implicitDefEqProofs only [go_sem, Nat.reduceLT, Nat.reduceEqDiff, Nat.reduceAdd, Nat.reduceLeDiff, Nat.reduceMul, Nat.reduceSub, Int.reduceEq, reduceCtorEq, reduceIte, *] <;> first | rfl | exact ⟨rfl, rfl⟩) (by simp -implicitDefEqProofs only [go_sem, Nat.reduceLT, Nat.reduceEqDiff, Nat.reduceAdd, Nat.reduceLeDiff, Nat.reduceMul, Nat.reduceSub, Int.reduceEq, reduceCtorEq, reduceIte, *] <;> first | rfl | exact ⟨rfl, rfl⟩) (by simp -implicitDefEqProofs only [go_sem, Nat.reduceLT, Nat.reduceEqDiff, Nat.reduceAdd, Nat.reduceLeDiff, Nat.reduceMul, Nat.reduceSub, Int.reduceEq, reduceCtorEq, reduceIte, *] <;> first | rfl | exact ⟨rfl, rfl⟩) (by simp -implicitDefEqProofs only [go_sem, Nat.reduceLT, Nat.reduceEqDiff, Nat.reduceAdd, Nat.reduceLeDiff, Nat.reduceMul, Nat.reduceSub, Int.reduceEq, reduceCtorEq, reduceIte, *]) (by first | trivial | simp) (by first | trivial | simp) he61 (fun E hE => c78 _ _ _ hb (by omega) E hE) (fun sv E' hQ => ?_); obtain ⟨x, hQ, hx, hE'⟩ := hQ; subst hQ; refine ⟨_, hE', ?_⟩)
      | (refine fork_intro (fun h => ?_) (fun h => ?_) <;> try simp only [Int.ofNat_lt, Int.ofNat_le, gdV, decide_eq_true_eq, decide_eq_false_iff_not, Bool.not_eq_true', Bool.not_eq_false', reduceCtorEq, Bool.true_eq_false, Bool.false_eq_true] at h))
    all_goals first
      | exact ⟨by simp, v ++ [(⟨⟨#[122, 120]⟩, false, [⟨4, 0, ⟨#[110, 111, 119, 104]⟩⟩]⟩ : F)], _, zxB hv, rfl, by omega, by omega, rfl⟩
      | exact ⟨by simp, v ++ [v[0]], _, snB hv (hv.2 _ (List.getElem_mem hv0)), rfl, by omega, by omega, rfl⟩
      | exact ⟨by simp, [], _, ⟨by simp, fun f hf => by simp at hf⟩, rfl, by omega, by omega, rfl⟩
      | exact ⟨by simp, v.set 0 ⟨v[0].nm, v[0].wk, []⟩, _, seB hv hv0, rfl, by omega, by omega, rfl⟩
      | exact ⟨by simp, v, _, ⟨by omega, fun f hf => smH_of (hv.2 f hf)⟩, rfl, by omega, by omega, rfl⟩
end Go.Proofs.Ytlphbpjejdhaoaa
