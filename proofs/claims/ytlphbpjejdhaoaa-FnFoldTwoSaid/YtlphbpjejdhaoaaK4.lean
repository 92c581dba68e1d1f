/- What is drawn: units. No condition. -/
import Derived.Test.YtlphbpjejdhaoaaK3
import Derived.Test.YtlphbpjejdhaoaaD1
open Go Go.AI Go.Proofs
set_option maxRecDepth 100000
set_option maxHeartbeats 4000000
set_option linter.unusedSimpArgs false
set_option linter.unusedVariables false
namespace Go.Proofs.Ytlphbpjejdhaoaa
attribute [local irreducible] awpOps opA callA Then Fork SWP

def smG (f : F) : Prop := f.nm.size ≤ 16 ∧ (0 < f.bd.length ∧ f.bd.length ≤ 7) ∧ smB f.bd
def InvU (p : Nat) (y : Nat × List F × Nat) : Prop := y.2.1.length + y.1 ≤ 3 ∧ (y.2.1 = [] → 1 ≤ y.1) ∧ (∀ f ∈ y.2.1, smG f) ∧ p ≤ y.2.2 ∧ y.2.2 + 60 * y.1 ≤ p + 190
def unitQ (b : List Nat) (p : Nat) (sv : SV) (E' : Nat → Option (Bool × List D)) : Prop := ∃ (u : List F) (p' : Nat), (0 < u.length ∧ u.length ≤ 3) ∧ (∀ f ∈ u, smG f) ∧ sv = .one (.sl true 3 (u.map fc)) ∧ p ≤ p' ∧ p' ≤ p + 190 ∧ E' 100000 = RD b p'
theorem findN_nil {s : ByteArray} : findN [] s = -1 := rfl
theorem c98 (b : List Nat) (p : Nat) (hb : okB b) (hp : p ≤ 1030000) (E) (hE : E 100000 = RD b p) : AC Try.prog 108 [.one (.addr (.v 100000) [] 0 0 0)] E (unitQ b p) := by
  unfold unitQ
  unfold RD at hE
  refine AC_of_swp (n := 27) (rs := [.tmp 2]) hf108 rfl rfl rfl rfl rfl ?_
  repeat' (first
    | refine swp_seq ?_ | refine swp_region ?_ | refine swp_block ?_ | refine swp_skip ?_ | refine swp_ret ?_ | refine swp_exit ?_
    | (refine swp_cond (by simp -implicitDefEqProofs only [go_sem, Nat.reduceLT, Nat.reduceEqDiff, Nat.reduceAdd, Nat.reduceLeDiff, Nat.reduceMul, Nat.reduceSub, Int.reduceEq, reduceCtorEq, reduceIte, *] <;> rfl) (fun h => ?_) (fun h => ?_) <;> try simp only [Int.ofNat_lt, Int.ofNat_le, gdV, decide_eq_true_eq, decide_eq_false_iff_not, Bool.not_eq_true', Bool.not_eq_false', reduceCtorEq, Bool.true_eq_false, Bool.false_eq_true] at h)
    | simp -implicitDefEqProofs only [go_sem, Nat.reduceLT, Nat.reduceEqDiff, Nat.reduceAdd, Nat.reduceLeDiff, Nat.reduceMul, Nat.reduceSub, Int.reduceEq, reduceCtorEq, reduceIte, *]
    | (refine call_lendF 100000 (f := .func 61) (by simp -implicitDefEqProofs only [go_sem, Nat.reduceLT, Nat.reduceEqDiff, Nat.reduceAdd, Nat.reduceLeDiff, Nat.reduceMul, Nat.reduceSub, Int.reduceEq, reduceCtorEq, reduceIte, *] <;> first | rfl | exact ⟨rfl, rfl⟩) (by simp -implicitDefEqProofs only [go_sem, Nat.reduceLT, Nat.reduceEqDiff, Nat.reduceAdd, Nat.reduceLeDiff, Nat.reduceMul, Nat.reduceSub, Int.reduceEq, reduceCtorEq, reduceIte, *] <;> first | rfl | exact ⟨rfl, rfl⟩) (by simp -implicitDefEqProofs only [go_sem, Nat.reduceLT, Nat.reduceEqDiff, Nat.reduceAdd, Nat.reduceLeDiff, Nat.reduceMul, Nat.reduceSub, Int.reduceEq, reduceCtorEq, reduceIte, *] <;> first | rfl | exact ⟨rfl, rfl⟩) (by simp -implicitDefEqProofs only [go_sem, Nat.reduceLT, Nat.reduceEqDiff, Nat.reduceAdd, Nat.reduceLeDiff, Nat.reduceMul, Nat.reduceSub, Int.reduceEq, reduceCtorEq, reduceIte, *] <;> first | rfl | exact ⟨rfl, rfl⟩) (by simp -implicitDefEqProofs only [go_sem, Nat.reduceLT, Nat.reduceEqDiff, Nat.reduceAdd, Nat.reduceLeDiff, Nat.reduceMul, Nat.reduceSub, Int.reduceEq, reduceCtorEq, reduceIte, *]) (by first | trivial | simp) (by first | trivial | simp) he61 (fun E hE => c78 _ _ _ hb (by omega) E hE) (fun sv E' hQ => ?_); obtain ⟨x, hQ, hx, hE'⟩ := hQ; subst hQ; refine ⟨_, hE', ?_⟩)
    | (refine fork_intro (fun h => ?_) (fun h => ?_) <;> try simp only [Int.ofNat_lt, Int.ofNat_le, gdV, decide_eq_true_eq, decide_eq_false_iff_not, Bool.not_eq_true', Bool.not_eq_false', reduceCtorEq, Bool.true_eq_false, Bool.false_eq_true] at h))
  have hx3 : x < 3 := by have := hx (by omega); omega
  have hw0 : IntKind.i64.wrap (1 + (x : Int)) = ((1 + x : Nat) : Int) := by rw [wrap64 (by omega) (by omega)]; omega
  refine swp_loop (ι := { y : Nat × List F × Nat // InvU p y }) (fun y => (fr 27 [.one (.addr (.v 100000) [] 0 0 0), .none, .none, .one (.sl true 3 (y.1.2.1.map fc)), .one (.lit (.int .i64 ((y.1.1 : Int) : Int)))] [(100000, true, [.sl false 1 (b.map brow), .lit (.int .i64 ((y.1.2.2 : Nat) : Int))])])) (fun y => y.1.1) ⟨(1 + x, [], p + 1), by show 0 + (1 + x) ≤ 3; omega, fun _ => by show 1 ≤ 1 + x; omega, fun f hf => by simp at hf, by show p ≤ p + 1; omega, by show p + 1 + 60 * (1 + x) ≤ p + 190; omega⟩ ?_ ?_
  · refine le_fr ?_ ?_ ?_ ?_ <;> simp -implicitDefEqProofs only [go_sem, Nat.reduceLT, Nat.reduceEqDiff, Nat.reduceAdd, Nat.reduceLeDiff, Nat.reduceMul, Nat.reduceSub, Int.reduceEq, reduceCtorEq, reduceIte, *] <;> first | rfl | (rw [wrap64 (by omega) (by omega)]; rfl) | (simp; done) | exact ⟨rfl, rfl⟩ | (refine ⟨rfl, ?_⟩; rw [wrap64 (by omega) (by omega)]; rfl)
  clear hx hE' hE hw0
  rintro ⟨⟨i, u, p'⟩, hui, hue, hsm, hpp, hpq⟩
  simp only at hui hue hsm hpp hpq ⊢
  have hul : u.length ≤ 1048576 := by omega
  have hA : (u.length + 1) * 48 ≤ 140737488355328 := by omega
  have hB : u.length + 1 ≤ 9223372036854775807 := by omega
  have hB2 : u.length ≤ 9223372036854775806 := by omega
  rcases Nat.eq_zero_or_pos i with h0 | h0
  · subst h0
    have hn : ¬ (0 : Int) < ((0 : Nat) : Int) := by omega
    have hne : 0 < u.length := Nat.pos_of_ne_zero fun h => by have := hue (List.length_eq_zero_iff.1 h); omega
    repeat' (first
      | refine swp_seq ?_ | refine swp_region ?_ | refine swp_block ?_ | refine swp_skip ?_ | refine swp_ret ?_ | refine swp_exit ?_
      | (refine swp_cond (by simp -implicitDefEqProofs only [go_sem, Nat.reduceLT, Nat.reduceEqDiff, Nat.reduceAdd, Nat.reduceLeDiff, Nat.reduceMul, Nat.reduceSub, Int.reduceEq, reduceCtorEq, reduceIte, *] <;> rfl) (fun h => ?_) (fun h => ?_) <;> try simp only [Int.ofNat_lt, Int.ofNat_le, gdV, decide_eq_true_eq, decide_eq_false_iff_not, Bool.not_eq_true', Bool.not_eq_false', reduceCtorEq, Bool.true_eq_false, Bool.false_eq_true] at h)
      | simp -implicitDefEqProofs only [go_sem, Nat.reduceLT, Nat.reduceEqDiff, Nat.reduceAdd, Nat.reduceLeDiff, Nat.reduceMul, Nat.reduceSub, Int.reduceEq, reduceCtorEq, reduceIte, *]
      | (refine fork_intro (fun h => ?_) (fun h => ?_) <;> try simp only [Int.ofNat_lt, Int.ofNat_le, gdV, decide_eq_true_eq, decide_eq_false_iff_not, Bool.not_eq_true', Bool.not_eq_false', reduceCtorEq, Bool.true_eq_false, Bool.false_eq_true] at h))
    all_goals exact ⟨by simp, u, p', ⟨hne, by omega⟩, hsm, rfl, hpp, by omega, rfl⟩
  have hn : (0 : Int) < (i : Int) := by omega
  have hw : IntKind.i64.wrap ((i : Int) - 1) = ((i - 1 : Nat) : Int) := by rw [wrap64 (by omega) (by omega)]; omega
  repeat' (first
    | refine swp_seq ?_ | refine swp_region ?_ | refine swp_block ?_ | refine swp_skip ?_ | refine swp_ret ?_ | refine swp_exit ?_
    | (refine swp_cond (by simp -implicitDefEqProofs only [go_sem, Nat.reduceLT, Nat.reduceEqDiff, Nat.reduceAdd, Nat.reduceLeDiff, Nat.reduceMul, Nat.reduceSub, Int.reduceEq, reduceCtorEq, reduceIte, *] <;> rfl) (fun h => ?_) (fun h => ?_) <;> try simp only [Int.ofNat_lt, Int.ofNat_le, gdV, decide_eq_true_eq, decide_eq_false_iff_not, Bool.not_eq_true', Bool.not_eq_false', reduceCtorEq, Bool.true_eq_false, Bool.false_eq_true] at h)
    | simp -implicitDefEqProofs only [go_sem, Nat.reduceLT, Nat.reduceEqDiff, Nat.reduceAdd, Nat.reduceLeDiff, Nat.reduceMul, Nat.reduceSub, Int.reduceEq, reduceCtorEq, reduceIte, *]
    | (refine call_lendF 100000 (f := .func 117) (by simp -implicitDefEqProofs only [go_sem, Nat.reduceLT, Nat.reduceEqDiff, Nat.reduceAdd, Nat.reduceLeDiff, Nat.reduceMul, Nat.reduceSub, Int.reduceEq, reduceCtorEq, reduceIte, *] <;> first | rfl | exact ⟨rfl, rfl⟩) (by simp -implicitDefEqProofs only [go_sem, Nat.reduceLT, Nat.reduceEqDiff, Nat.reduceAdd, Nat.reduceLeDiff, Nat.reduceMul, Nat.reduceSub, Int.reduceEq, reduceCtorEq, reduceIte, *] <;> first | rfl | exact ⟨rfl, rfl⟩) (by simp -implicitDefEqProofs only [go_sem, Nat.reduceLT, Nat.reduceEqDiff, Nat.reduceAdd, Nat.reduceLeDiff, Nat.reduceMul, Nat.reduceSub, Int.reduceEq, reduceCtorEq, reduceIte, *] <;> first | rfl | exact ⟨rfl, rfl⟩) (by simp -implicitDefEqProofs only [go_sem, Nat.reduceLT, Nat.reduceEqDiff, Nat.reduceAdd, Nat.reduceLeDiff, Nat.reduceMul, Nat.reduceSub, Int.reduceEq, reduceCtorEq, reduceIte, *] <;> first | rfl | exact ⟨rfl, rfl⟩) (by simp -implicitDefEqProofs only [go_sem, Nat.reduceLT, Nat.reduceEqDiff, Nat.reduceAdd, Nat.reduceLeDiff, Nat.reduceMul, Nat.reduceSub, Int.reduceEq, reduceCtorEq, reduceIte, *]) (by first | trivial | simp) (by first | trivial | simp) he117 (fun E hE => c41 _ _ hb (by omega) E hE) (fun sv E' hQ => ?_); obtain ⟨s, hsz, hQ, hE'⟩ := hQ; subst hQ; have hs16 : s.size ≤ 16 := (by omega); refine ⟨_, hE', ?_⟩)
    | (refine call_view (f := .func 40) (by simp -implicitDefEqProofs only [go_sem, Nat.reduceLT, Nat.reduceEqDiff, Nat.reduceAdd, Nat.reduceLeDiff, Nat.reduceMul, Nat.reduceSub, Int.reduceEq, reduceCtorEq, reduceIte] <;> rfl) (by simp -implicitDefEqProofs only [go_sem, Nat.reduceLT, Nat.reduceEqDiff, Nat.reduceAdd, Nat.reduceLeDiff, Nat.reduceMul, Nat.reduceSub, Int.reduceEq, reduceCtorEq, reduceIte] <;> rfl) (by simp -implicitDefEqProofs only [go_sem, Nat.reduceLT, Nat.reduceEqDiff, Nat.reduceAdd, Nat.reduceLeDiff, Nat.reduceMul, Nat.reduceSub, Int.reduceEq, reduceCtorEq, reduceIte]) (by first | trivial | simp) he40 (fun E => c88 _ _ hul E) (fun sv E' hQ => ?_); subst hQ)
    | (refine call_lendF 100000 (f := .func 107) (by simp -implicitDefEqProofs only [go_sem, Nat.reduceLT, Nat.reduceEqDiff, Nat.reduceAdd, Nat.reduceLeDiff, Nat.reduceMul, Nat.reduceSub, Int.reduceEq, reduceCtorEq, reduceIte, *] <;> first | rfl | exact ⟨rfl, rfl⟩) (by simp -implicitDefEqProofs only [go_sem, Nat.reduceLT, Nat.reduceEqDiff, Nat.reduceAdd, Nat.reduceLeDiff, Nat.reduceMul, Nat.reduceSub, Int.reduceEq, reduceCtorEq, reduceIte, *] <;> first | rfl | exact ⟨rfl, rfl⟩) (by simp -implicitDefEqProofs only [go_sem, Nat.reduceLT, Nat.reduceEqDiff, Nat.reduceAdd, Nat.reduceLeDiff, Nat.reduceMul, Nat.reduceSub, Int.reduceEq, reduceCtorEq, reduceIte, *] <;> first | rfl | exact ⟨rfl, rfl⟩) (by simp -implicitDefEqProofs only [go_sem, Nat.reduceLT, Nat.reduceEqDiff, Nat.reduceAdd, Nat.reduceLeDiff, Nat.reduceMul, Nat.reduceSub, Int.reduceEq, reduceCtorEq, reduceIte, *] <;> first | rfl | exact ⟨rfl, rfl⟩) (by simp -implicitDefEqProofs only [go_sem, Nat.reduceLT, Nat.reduceEqDiff, Nat.reduceAdd, Nat.reduceLeDiff, Nat.reduceMul, Nat.reduceSub, Int.reduceEq, reduceCtorEq, reduceIte, *]) (by first | trivial | simp) (by first | trivial | simp) he107 (fun E hE => c106 _ _ _ hb (by omega) E hE) (fun sv E' hQ => ?_); obtain ⟨f, p', hnm, hfl, hfs, hQ, hp1, hp2, hE'⟩ := hQ; subst hQ; refine ⟨_, hE', ?_⟩)
    | (refine fork_intro (fun h => ?_) (fun h => ?_) <;> try simp only [Int.ofNat_lt, Int.ofNat_le, gdV, decide_eq_true_eq, decide_eq_false_iff_not, Bool.not_eq_true', Bool.not_eq_false', reduceCtorEq, Bool.true_eq_false, Bool.false_eq_true] at h))
  · subst hnm
    have hG : smG f := ⟨by omega, ⟨hfl.1, by omega⟩, hfs⟩
    refine ⟨⟨(i - 1, u ++ [f], p'), by show (u ++ [f]).length + (i - 1) ≤ 3; simp; omega, fun h => by simp at h, fun g hg => (List.mem_append.1 hg).elim (hsm g) (fun h => by simp only [List.mem_singleton] at h; subst h; exact hG), by show p ≤ p'; omega, by show p' + 60 * (i - 1) ≤ p + 190; omega⟩, by show i - 1 < i; omega, ?_⟩
    have e2 : u.map fc ++ [[.lit (.string f.nm), .lit (.bool f.wk), .sl false 3 (f.bd.map ic)]] = (u ++ [f]).map fc := by simp [fc]
    simp only
    refine le_fr ?_ ?_ ?_ ?_ <;> simp -implicitDefEqProofs only [go_sem, Nat.reduceLT, Nat.reduceEqDiff, Nat.reduceAdd, Nat.reduceLeDiff, Nat.reduceMul, Nat.reduceSub, Int.reduceEq, reduceCtorEq, reduceIte, *] <;> first | rfl | (rw [wrap64 (by omega) (by omega)]; rfl) | (simp; done) | exact ⟨rfl, rfl⟩ | (refine ⟨rfl, ?_⟩; rw [wrap64 (by omega) (by omega)]; rfl)
  · have hne : u ≠ [] := fun e => by subst e; rw [findN_nil] at h; omega
    refine ⟨⟨(i - 1, u, p' + 1), by show u.length + (i - 1) ≤ 3; omega, fun h => absurd h hne, hsm, by show p ≤ p' + 1; omega, by show p' + 1 + 60 * (i - 1) ≤ p + 190; omega⟩, by show i - 1 < i; omega, ?_⟩
    simp only
    refine le_fr ?_ ?_ ?_ ?_ <;> simp -implicitDefEqProofs only [go_sem, Nat.reduceLT, Nat.reduceEqDiff, Nat.reduceAdd, Nat.reduceLeDiff, Nat.reduceMul, Nat.reduceSub, Int.reduceEq, reduceCtorEq, reduceIte, *] <;> first | rfl | (rw [wrap64 (by omega) (by omega)]; rfl) | (simp; done) | exact ⟨rfl, rfl⟩ | (refine ⟨rfl, ?_⟩; rw [wrap64 (by omega) (by omega)]; rfl)
end Go.Proofs.Ytlphbpjejdhaoaa
