/- The law FnExactFoldTwo, walked. No condition. -/
import Derived.Test.YtookjkiagdkajaaD4
open Go Go.AI Go.Proofs
set_option maxRecDepth 100000
set_option maxHeartbeats 4000000
set_option linter.unusedSimpArgs false
set_option linter.unusedVariables false
namespace Go.Proofs.Ytookjkiagdkajaa
attribute [local irreducible] awpOps opA callA Then Fork SWP

def sizedF (f : F) : Prop := f.nm.size ≤ 140737488355328 ∧ f.bd.length ≤ 140737488355328 ∧ ∀ x ∈ f.bd, x.s.size ≤ 140737488355328

theorem c21 (u : List F) (k : Int) (hl : u.length ≤ 140737488355328) (hs : ∀ f ∈ u, sizedF f) (h0 : 0 ≤ k) (hk : k ≤ 1048576) (E) : AC Try.prog 21 [.one (.sl false 3 (u.map fc)), .one (.lit (.int .i64 k))] E
    (fun sv _ => ∃ r : Int, sv = .one (.lit (.int .i64 r)) ∧ r ≤ k ∧ (0 ≤ r → smallU u)) := by
  have hw : IntKind.i64.wrap (k - u.length) = k - u.length := wrap64 (by omega) (by omega)
  refine AC_of_swp (n := 27) (rs := [.tmp 4]) hf21 rfl rfl rfl rfl rfl ?_
  repeat' (first
    | refine swp_seq ?_ | refine swp_region ?_ | refine swp_block ?_ | refine swp_skip ?_ | refine swp_ret ?_ | refine swp_exit ?_
    | (refine swp_cond (by simp -implicitDefEqProofs only [go_sem, Nat.reduceLT, Nat.reduceEqDiff, Nat.reduceAdd, Nat.reduceLeDiff, Nat.reduceMul, Nat.reduceSub, Int.reduceEq, reduceCtorEq, reduceIte, *] <;> rfl) (fun h => ?_) (fun h => ?_) <;> try simp only [Int.ofNat_lt, Int.ofNat_le, gdV, decide_eq_true_eq, decide_eq_false_iff_not, Bool.not_eq_true', Bool.not_eq_false', reduceCtorEq, Bool.true_eq_false, Bool.false_eq_true] at h)
    | simp -implicitDefEqProofs only [go_sem, Nat.reduceLT, Nat.reduceEqDiff, Nat.reduceAdd, Nat.reduceLeDiff, Nat.reduceMul, Nat.reduceSub, Int.reduceEq, reduceCtorEq, reduceIte, *]
    | (refine fork_intro (fun h => ?_) (fun h => ?_) <;> try simp only [Int.ofNat_lt, Int.ofNat_le, gdV, decide_eq_true_eq, decide_eq_false_iff_not, Bool.not_eq_true', Bool.not_eq_false', reduceCtorEq, Bool.true_eq_false, Bool.false_eq_true] at h))
  all_goals first | (refine ⟨by simp, _, rfl, ?_⟩; omega) | skip
  have hpos : ¬ (k - (u.length : Int) < 0) := h
  refine swp_loop (ι := { p : Nat × Int // p.1 ≤ u.length ∧ 0 ≤ p.2 ∧ p.2 ≤ k ∧ ∀ j (h : j < u.length), j < p.1 → u[j].nm.size ≤ 1048576 ∧ small u[j].bd }) (fun p => fr 27 [.one (.sl false 3 (u.map fc)), .one (.lit (.int .i64 p.1.2)), .none, .none, .one (.lit (.int .i64 0)), .one (.lit (.int .i64 (p.1.1 : Int)))] [])
    (fun p => u.length - p.1.1) ⟨(0, k - u.length), Nat.zero_le _, (by show (0:Int) ≤ k - u.length; omega), (by show k - (u.length:Int) ≤ k; omega), fun j hj hj0 => by omega⟩ ?_ ?_
  · refine le_fr ?_ ?_ ?_ ?_ <;> simp -implicitDefEqProofs only [go_sem, Nat.reduceLT, Nat.reduceEqDiff, Nat.reduceAdd, Nat.reduceLeDiff, Nat.reduceMul, Nat.reduceSub, Int.reduceEq, reduceCtorEq, reduceIte, *] <;> first | rfl | (rw [wrap64 (by omega) (by omega)]; rfl) | (simp; done) | exact ⟨rfl, rfl⟩ | (refine ⟨rfl, ?_⟩; rw [wrap64 (by omega) (by omega)]; rfl)
  rintro ⟨⟨i, r⟩, hi, hr0, hr, hlow⟩
  simp only at hi hr0 hr hlow ⊢
  have hsz : ∀ h : i < u.length, sizedF u[i] := fun h => hs _ (List.getElem_mem h)
  repeat' (first
    | refine swp_seq ?_ | refine swp_region ?_ | refine swp_block ?_ | refine swp_skip ?_ | refine swp_ret ?_ | refine swp_exit ?_
    | (refine swp_cond (by simp -implicitDefEqProofs only [go_sem, Nat.reduceLT, Nat.reduceEqDiff, Nat.reduceAdd, Nat.reduceLeDiff, Nat.reduceMul, Nat.reduceSub, Int.reduceEq, reduceCtorEq, reduceIte, *] <;> rfl) (fun h => ?_) (fun h => ?_) <;> try simp only [Int.ofNat_lt, Int.ofNat_le, gdV, decide_eq_true_eq, decide_eq_false_iff_not, Bool.not_eq_true', Bool.not_eq_false', reduceCtorEq, Bool.true_eq_false, Bool.false_eq_true] at h)
    | simp -implicitDefEqProofs only [go_sem, Nat.reduceLT, Nat.reduceEqDiff, Nat.reduceAdd, Nat.reduceLeDiff, Nat.reduceMul, Nat.reduceSub, Int.reduceEq, reduceCtorEq, reduceIte, *]
    | (refine call_view (f := .func 16) (by simp -implicitDefEqProofs only [go_sem, Nat.reduceLT, Nat.reduceEqDiff, Nat.reduceAdd, Nat.reduceLeDiff, Nat.reduceMul, Nat.reduceSub, Int.reduceEq, reduceCtorEq, reduceIte] <;> rfl) (by simp -implicitDefEqProofs only [go_sem, Nat.reduceLT, Nat.reduceEqDiff, Nat.reduceAdd, Nat.reduceLeDiff, Nat.reduceMul, Nat.reduceSub, Int.reduceEq, reduceCtorEq, reduceIte] <;> rfl) (by simp -implicitDefEqProofs only [go_sem, Nat.reduceLT, Nat.reduceEqDiff, Nat.reduceAdd, Nat.reduceLeDiff, Nat.reduceMul, Nat.reduceSub, Int.reduceEq, reduceCtorEq, reduceIte]) (by first | trivial | simp) he16 (fun E => c16 _ _ _ _ (hsz (by assumption)).1 (hsz (by assumption)).2.1 (hsz (by assumption)).2.2 hr0 (by omega) E) (fun sv E' hQ => ?_); obtain ⟨r2, hQ, hr2, hr3⟩ := hQ; subst hQ)
    | (refine fork_intro (fun h => ?_) (fun h => ?_) <;> try simp only [Int.ofNat_lt, Int.ofNat_le, gdV, decide_eq_true_eq, decide_eq_false_iff_not, Bool.not_eq_true', Bool.not_eq_false', reduceCtorEq, Bool.true_eq_false, Bool.false_eq_true] at h))
  · refine ⟨by simp, _, rfl, ?_⟩; exact ⟨by omega, fun h => by omega⟩
  · rename_i h1
    refine ⟨⟨(i + 1, r2), h1, by show (0:Int) ≤ r2; omega, by show r2 ≤ k; omega, fun j hj hji => ?_⟩, by show u.length - (i + 1) < u.length - i; omega, ?_⟩
    · rcases Nat.lt_or_ge j i with h' | h'
      · exact hlow j hj h'
      · have : j = i := by have : j < i + 1 := hji; omega
        subst this; exact hr3 (by omega)
    · refine le_fr ?_ ?_ ?_ ?_ <;> simp -implicitDefEqProofs only [go_sem, Nat.reduceLT, Nat.reduceEqDiff, Nat.reduceAdd, Nat.reduceLeDiff, Nat.reduceMul, Nat.reduceSub, Int.reduceEq, reduceCtorEq, reduceIte, *] <;> first | rfl | (rw [wrap64 (by omega) (by omega)]; rfl) | (simp; done) | exact ⟨rfl, rfl⟩ | (refine ⟨rfl, ?_⟩; rw [wrap64 (by omega) (by omega)]; rfl)
  · refine ⟨by simp, _, rfl, hr, fun _ => ⟨by omega, fun x hx => ?_⟩⟩
    obtain ⟨j, hj, rfl⟩ := List.getElem_of_mem hx
    exact hlow j hj (by omega)

/-! Rows that are made one by one. -/
def mixR (f : Nat → List D) (i : Nat) (l : List (List D)) : List (List D) := (List.range i).map f ++ l.drop i
theorem mixR_zero {f : Nat → List D} {l : List (List D)} : mixR f 0 l = l := by simp [mixR]
theorem mixR_all {f : Nat → List D} {i : Nat} {l : List (List D)} (h : l.length ≤ i) : mixR f i l = (List.range i).map f := by simp [mixR, List.drop_eq_nil_of_le h]
@[go_sem] theorem mixR_len {f : Nat → List D} {i : Nat} {l : List (List D)} (h : i ≤ l.length) : (mixR f i l).length = l.length := by simp [mixR]; omega
@[go_sem] theorem mixR_get {f : Nat → List D} {i n : Nat} {z : List D} (h : i < n) : (mixR f i (List.replicate n z))[i]? = some z := by
  rw [mixR, List.getElem?_append_right (by simp)]
  have : i - ((List.range i).map f).length = 0 := by simp
  rw [this, List.getElem?_drop, Nat.add_zero]
  simp [h]
theorem mixR_set {f : Nat → List D} {i : Nat} {l : List (List D)} (h : i < l.length) : (mixR f i l).set i (f i) = mixR f (i + 1) l := by
  rw [mixR, mixR, List.set_append_right _ _ (by simp), List.range_succ, List.map_append, List.append_assoc]
  congr 1
  have : i - ((List.range i).map f).length = 0 := by simp
  rw [this, List.drop_eq_getElem_cons h]; rfl
def zF : F := ⟨⟨#[]⟩, false, []⟩
theorem getF_range (u : List F) : (List.range u.length).map (fun j => fc (u.getD j zF)) = u.map fc := by
  apply List.ext_getElem (by simp)
  intro i h1 h2
  simp at h2
  simp [h2]
def fcAt (u : List F) (j : Nat) : List D := fc (u.getD j zF)
theorem fcAt_lt {u : List F} {j : Nat} (h : j < u.length) : fcAt u j = fc u[j] := by simp [fcAt, h]

theorem c23 (u : List F) (hU : smallU u) (E) : AC Try.prog 23 [.one (.sl false 3 (u.map fc))] E (fun sv _ => sv = .one (.sl true 3 (u.map fc))) := by
  have hl1 := hU.1
  have hA : (48 : Int) * u.length ≤ 281474976710656 := by omega
  have hA' : ((48 : Nat) : Int) * u.length ≤ 281474976710656 := by omega
  have hB : (u.length : Int) ≤ 9223372036854775807 := by omega
  refine AC_of_swp (n := 23) (rs := [.tmp 2]) hf23 rfl rfl rfl rfl rfl ?_
  repeat' (first
    | refine swp_seq ?_ | refine swp_region ?_ | refine swp_block ?_ | refine swp_skip ?_ | refine swp_ret ?_ | refine swp_exit ?_
    | (refine swp_cond (by simp -implicitDefEqProofs only [go_sem, Nat.reduceLT, Nat.reduceEqDiff, Nat.reduceAdd, Nat.reduceLeDiff, Nat.reduceMul, Nat.reduceSub, Int.reduceEq, reduceCtorEq, reduceIte, *] <;> rfl) (fun h => ?_) (fun h => ?_) <;> try simp only [Int.ofNat_lt, Int.ofNat_le, gdV, decide_eq_true_eq, decide_eq_false_iff_not, Bool.not_eq_true', Bool.not_eq_false', reduceCtorEq, Bool.true_eq_false, Bool.false_eq_true] at h)
    | simp -implicitDefEqProofs only [go_sem, Nat.reduceLT, Nat.reduceEqDiff, Nat.reduceAdd, Nat.reduceLeDiff, Nat.reduceMul, Nat.reduceSub, Int.reduceEq, reduceCtorEq, reduceIte, *]
    | (refine fork_intro (fun h => ?_) (fun h => ?_) <;> try simp only [Int.ofNat_lt, Int.ofNat_le, gdV, decide_eq_true_eq, decide_eq_false_iff_not, Bool.not_eq_true', Bool.not_eq_false', reduceCtorEq, Bool.true_eq_false, Bool.false_eq_true] at h))
  refine swp_loop (ι := { i : Nat // i ≤ u.length }) (fun i => fr 23 [.one (.sl false 3 (u.map fc)), .none, .none, .one (.sl true 3 (mixR (fcAt u) i.1 (List.replicate u.length [.lit (.string ⟨#[]⟩), .lit (.bool false), .nil]))), .one (.lit (.int .i64 (i.1 : Int)))] [])
    (fun i => u.length - i.1) ⟨0, Nat.zero_le _⟩ ?_ ?_
  · rw [mixR_zero]; refine le_fr ?_ ?_ ?_ ?_ <;> simp -implicitDefEqProofs only [go_sem, Nat.reduceLT, Nat.reduceEqDiff, Nat.reduceAdd, Nat.reduceLeDiff, Nat.reduceMul, Nat.reduceSub, Int.reduceEq, reduceCtorEq, reduceIte, *] <;> first | rfl | (rw [wrap64 (by omega) (by omega)]; rfl) | (simp; done) | exact ⟨rfl, rfl⟩ | (refine ⟨rfl, ?_⟩; rw [wrap64 (by omega) (by omega)]; rfl)
  rintro ⟨i, hi⟩
  have hi' : i ≤ (List.replicate u.length [D.lit (.string ⟨#[]⟩), .lit (.bool false), .nil]).length := by simpa using hi
  have hsm := fun h => (smallU_at hU (i := i) h).2
  have hset : ∀ h : i < u.length, (mixR (fcAt u) i (List.replicate u.length [.lit (.string ⟨#[]⟩), .lit (.bool false), .nil])).set i (fc u[i]) = mixR (fcAt u) (i + 1) (List.replicate u.length [.lit (.string ⟨#[]⟩), .lit (.bool false), .nil]) := fun h => by
    have := mixR_set (f := fcAt u) (i := i) (l := List.replicate u.length [D.lit (.string ⟨#[]⟩), .lit (.bool false), .nil]) (by simpa using h)
    rw [← this, fcAt_lt h]
  repeat' (first
    | refine swp_seq ?_ | refine swp_region ?_ | refine swp_block ?_ | refine swp_skip ?_ | refine swp_ret ?_ | refine swp_exit ?_
    | (refine swp_cond (by simp -implicitDefEqProofs only [go_sem, Nat.reduceLT, Nat.reduceEqDiff, Nat.reduceAdd, Nat.reduceLeDiff, Nat.reduceMul, Nat.reduceSub, Int.reduceEq, reduceCtorEq, reduceIte, *] <;> rfl) (fun h => ?_) (fun h => ?_) <;> try simp only [Int.ofNat_lt, Int.ofNat_le, gdV, decide_eq_true_eq, decide_eq_false_iff_not, Bool.not_eq_true', Bool.not_eq_false', reduceCtorEq, Bool.true_eq_false, Bool.false_eq_true] at h)
    | simp -implicitDefEqProofs only [go_sem, Nat.reduceLT, Nat.reduceEqDiff, Nat.reduceAdd, Nat.reduceLeDiff, Nat.reduceMul, Nat.reduceSub, Int.reduceEq, reduceCtorEq, reduceIte, *]
    | (refine call_view (f := .func 17) (by simp -implicitDefEqProofs only [go_sem, Nat.reduceLT, Nat.reduceEqDiff, Nat.reduceAdd, Nat.reduceLeDiff, Nat.reduceMul, Nat.reduceSub, Int.reduceEq, reduceCtorEq, reduceIte] <;> rfl) (by simp -implicitDefEqProofs only [go_sem, Nat.reduceLT, Nat.reduceEqDiff, Nat.reduceAdd, Nat.reduceLeDiff, Nat.reduceMul, Nat.reduceSub, Int.reduceEq, reduceCtorEq, reduceIte] <;> rfl) (by simp -implicitDefEqProofs only [go_sem, Nat.reduceLT, Nat.reduceEqDiff, Nat.reduceAdd, Nat.reduceLeDiff, Nat.reduceMul, Nat.reduceSub, Int.reduceEq, reduceCtorEq, reduceIte]) (by first | trivial | simp) he17 (fun E => c17 _ _ _ (hsm (by assumption)) E) (fun sv E' hQ => ?_); subst hQ; refine ⟨by simp [SV.Fresh, -fresh_sl, -List.map_map, frs], ?_⟩)
    | (refine fork_intro (fun h => ?_) (fun h => ?_) <;> try simp only [Int.ofNat_lt, Int.ofNat_le, gdV, decide_eq_true_eq, decide_eq_false_iff_not, Bool.not_eq_true', Bool.not_eq_false', reduceCtorEq, Bool.true_eq_false, Bool.false_eq_true] at h))
  · replace hset := hset h
    rw [fc_eq] at hset
    refine ⟨⟨i + 1, h⟩, by show u.length - (i + 1) < u.length - i; omega, ?_⟩
    refine le_fr ?_ ?_ ?_ ?_ <;> simp -implicitDefEqProofs only [go_sem, Nat.reduceLT, Nat.reduceEqDiff, Nat.reduceAdd, Nat.reduceLeDiff, Nat.reduceMul, Nat.reduceSub, Int.reduceEq, reduceCtorEq, reduceIte, *] <;> first | rfl | (rw [wrap64 (by omega) (by omega)]; rfl) | (simp; done) | exact ⟨rfl, rfl⟩ | (refine ⟨rfl, ?_⟩; rw [wrap64 (by omega) (by omega)]; rfl)
  · refine ⟨by simp, ?_⟩
    have : i = u.length := by omega
    subst this
    rw [mixR_all (by simp)]
    exact congrArg (D.sl true 3) (getF_range u)

theorem c25 (u v : List F) (hU : smallU u) (hV : smallU v) (E) : AC Try.prog 25 [.one (.sl false 3 (u.map fc)), .one (.sl false 3 (v.map fc))] E (fun sv _ => ∃ b : Bool, sv = .one (.lit (.bool b)) ∧ (u = v → b = true)) := by
  have hu := hU.1
  have hv := hV.1
  refine AC_of_swp (n := 27) (rs := [.tmp 4]) hf25 rfl rfl rfl rfl rfl ?_
  repeat' (first
    | refine swp_seq ?_ | refine swp_region ?_ | refine swp_block ?_ | refine swp_skip ?_ | refine swp_ret ?_ | refine swp_exit ?_
    | (refine swp_cond (by simp -implicitDefEqProofs only [go_sem, Nat.reduceLT, Nat.reduceEqDiff, Nat.reduceAdd, Nat.reduceLeDiff, Nat.reduceMul, Nat.reduceSub, Int.reduceEq, reduceCtorEq, reduceIte, *] <;> rfl) (fun h => ?_) (fun h => ?_) <;> try simp only [Int.ofNat_lt, Int.ofNat_le, gdV, decide_eq_true_eq, decide_eq_false_iff_not, Bool.not_eq_true', Bool.not_eq_false', reduceCtorEq, Bool.true_eq_false, Bool.false_eq_true] at h)
    | simp -implicitDefEqProofs only [go_sem, Nat.reduceLT, Nat.reduceEqDiff, Nat.reduceAdd, Nat.reduceLeDiff, Nat.reduceMul, Nat.reduceSub, Int.reduceEq, reduceCtorEq, reduceIte, *]
    | (refine fork_intro (fun h => ?_) (fun h => ?_) <;> try simp only [Int.ofNat_lt, Int.ofNat_le, gdV, decide_eq_true_eq, decide_eq_false_iff_not, Bool.not_eq_true', Bool.not_eq_false', reduceCtorEq, Bool.true_eq_false, Bool.false_eq_true] at h))
  · exact ⟨by simp, false, rfl, fun e => absurd (by rw [e]) h⟩
  have hlm : u.length = v.length := by omega
  refine swp_loop (ι := { i : Nat // i ≤ u.length }) (fun i => fr 27 [.one (.sl false 3 (u.map fc)), .one (.sl false 3 (v.map fc)), .none, .none, .one (.lit (.bool false)), .one (.lit (.int .i64 (i.1 : Int)))] [])
    (fun i => u.length - i.1) ⟨0, Nat.zero_le _⟩ ?_ ?_
  · refine le_fr ?_ ?_ ?_ ?_ <;> simp -implicitDefEqProofs only [go_sem, Nat.reduceLT, Nat.reduceEqDiff, Nat.reduceAdd, Nat.reduceLeDiff, Nat.reduceMul, Nat.reduceSub, Int.reduceEq, reduceCtorEq, reduceIte, *] <;> first | rfl | (rw [wrap64 (by omega) (by omega)]; rfl) | (simp; done) | exact ⟨rfl, rfl⟩ | (refine ⟨rfl, ?_⟩; rw [wrap64 (by omega) (by omega)]; rfl)
  rintro ⟨i, hi⟩
  have him : i < u.length → i < v.length := fun h => by omega
  have hbi := fun h => (smallU_at hU (i := i) h).2.1
  have hbj := fun h => (smallU_at hV (i := i) h).2.1
  repeat' (first
    | refine swp_seq ?_ | refine swp_region ?_ | refine swp_block ?_ | refine swp_skip ?_ | refine swp_ret ?_ | refine swp_exit ?_
    | (refine swp_cond (by simp -implicitDefEqProofs only [go_sem, Nat.reduceLT, Nat.reduceEqDiff, Nat.reduceAdd, Nat.reduceLeDiff, Nat.reduceMul, Nat.reduceSub, Int.reduceEq, reduceCtorEq, reduceIte, *] <;> rfl) (fun h => ?_) (fun h => ?_) <;> try simp only [Int.ofNat_lt, Int.ofNat_le, gdV, decide_eq_true_eq, decide_eq_false_iff_not, Bool.not_eq_true', Bool.not_eq_false', reduceCtorEq, Bool.true_eq_false, Bool.false_eq_true] at h)
    | simp -implicitDefEqProofs only [go_sem, Nat.reduceLT, Nat.reduceEqDiff, Nat.reduceAdd, Nat.reduceLeDiff, Nat.reduceMul, Nat.reduceSub, Int.reduceEq, reduceCtorEq, reduceIte, *]
    | (refine swp_draw (id := 6) [.s 25] mixed ?_; show DW _ _ _ _ 10 (Array.replicate 10 false) _ _; refine dw_takes [0, 1, 2, 3, 4, 5, 6, 7] (fuel := 2) rfl (by kernel_rfl) ?_; simp -implicitDefEqProofs only [go_sem, Nat.reduceLT, Nat.reduceEqDiff, Nat.reduceAdd, Nat.reduceLeDiff, Nat.reduceMul, Nat.reduceSub, Int.reduceEq, reduceCtorEq, reduceIte, *]; refine dw_nextA 8 (by kernel_rfl) ?_; simp -implicitDefEqProofs only [go_sem, Nat.reduceLT, Nat.reduceEqDiff, Nat.reduceAdd, Nat.reduceLeDiff, Nat.reduceMul, Nat.reduceSub, Int.reduceEq, reduceCtorEq, reduceIte, *]; (first | (refine call_view (f := .func 18) (by simp -implicitDefEqProofs only [go_sem, Nat.reduceLT, Nat.reduceEqDiff, Nat.reduceAdd, Nat.reduceLeDiff, Nat.reduceMul, Nat.reduceSub, Int.reduceEq, reduceCtorEq, reduceIte] <;> rfl) (by simp -implicitDefEqProofs only [go_sem, Nat.reduceLT, Nat.reduceEqDiff, Nat.reduceAdd, Nat.reduceLeDiff, Nat.reduceMul, Nat.reduceSub, Int.reduceEq, reduceCtorEq, reduceIte] <;> rfl) (by simp -implicitDefEqProofs only [go_sem, Nat.reduceLT, Nat.reduceEqDiff, Nat.reduceAdd, Nat.reduceLeDiff, Nat.reduceMul, Nat.reduceSub, Int.reduceEq, reduceCtorEq, reduceIte]) (by first | trivial | simp) he18 (fun E => c18 _ _ _ _ _ _ (hbi (by omega)) (hbj (by omega)) E) (fun sv E' hQ => ?_); subst hQ)); (try refine ⟨by simp [SV.Fresh], ?_⟩); refine dw_knowA [] 25 (by kernel_rfl) ?_; simp -implicitDefEqProofs only [go_sem, Nat.reduceLT, Nat.reduceEqDiff, Nat.reduceAdd, Nat.reduceLeDiff, Nat.reduceMul, Nat.reduceSub, Int.reduceEq, reduceCtorEq, reduceIte, *]; refine dw_takes [9] (fuel := 0) rfl (by kernel_rfl) ?_; simp -implicitDefEqProofs only [go_sem, Nat.reduceLT, Nat.reduceEqDiff, Nat.reduceAdd, Nat.reduceLeDiff, Nat.reduceMul, Nat.reduceSub, Int.reduceEq, reduceCtorEq, reduceIte, *]; refine dw_done (by kernel_rfl) ?_)
    | (refine fork_intro (fun h => ?_) (fun h => ?_) <;> try simp only [Int.ofNat_lt, Int.ofNat_le, gdV, decide_eq_true_eq, decide_eq_false_iff_not, Bool.not_eq_true', Bool.not_eq_false', reduceCtorEq, Bool.true_eq_false, Bool.false_eq_true] at h))
  · refine ⟨by simp, false, rfl, fun e => ?_⟩
    subst e
    exact absurd ⟨rfl, rfl, rfl⟩ h
  · have h9 : i < v.length := by assumption
    refine ⟨⟨i + 1, by omega⟩, by show v.length - (i + 1) < v.length - i; omega, ?_⟩
    refine le_fr ?_ ?_ ?_ ?_ <;> simp -implicitDefEqProofs only [go_sem, Nat.reduceLT, Nat.reduceEqDiff, Nat.reduceAdd, Nat.reduceLeDiff, Nat.reduceMul, Nat.reduceSub, Int.reduceEq, reduceCtorEq, reduceIte, *] <;> first | rfl | (rw [wrap64 (by omega) (by omega)]; rfl) | (simp; done) | exact ⟨rfl, rfl⟩ | (refine ⟨rfl, ?_⟩; rw [wrap64 (by omega) (by omega)]; rfl)
  · exact ⟨by simp, true, rfl, fun _ => rfl⟩

theorem two_same {u : List F} {i j i' j' : Int} {b b' : Bool} (h : if keepOk u = true then TwoS u i j b else i = 0 ∧ j = 0 ∧ b = false) (h' : if keepOk u = true then TwoS u i' j' b' else i' = 0 ∧ j' = 0 ∧ b' = false) : i = i' ∧ j = j' ∧ b = b' := by
  split at h
  · next hk => rw [if_pos hk] at h'; exact two_unique h h'
  · next hk =>
    rw [if_neg hk] at h'
    obtain ⟨rfl, rfl, rfl⟩ := h
    obtain ⟨rfl, rfl, rfl⟩ := h'
    exact ⟨rfl, rfl, rfl⟩

theorem c5 (u : List F) (hl : u.length ≤ 140737488355328) (hs : ∀ f ∈ u, sizedF f) (E) : AC Try.prog 5 [.one (.sl false 3 (u.map fc))] E (fun sv _ => sv = .one (.lit (.bool true))) := by
  refine AC_of_swp (n := 49) (rs := [.tmp 2]) hf5 rfl rfl rfl rfl rfl ?_
  repeat' (first
    | refine swp_seq ?_ | refine swp_region ?_ | refine swp_block ?_ | refine swp_skip ?_ | refine swp_ret ?_ | refine swp_exit ?_
    | (refine swp_cond (by simp -implicitDefEqProofs only [go_sem, Nat.reduceLT, Nat.reduceEqDiff, Nat.reduceAdd, Nat.reduceLeDiff, Nat.reduceMul, Nat.reduceSub, Int.reduceEq, reduceCtorEq, reduceIte, *] <;> rfl) (fun h => ?_) (fun h => ?_) <;> try simp only [Int.ofNat_lt, Int.ofNat_le, gdV, decide_eq_true_eq, decide_eq_false_iff_not, Bool.not_eq_true', Bool.not_eq_false', reduceCtorEq, Bool.true_eq_false, Bool.false_eq_true] at h)
    | simp -implicitDefEqProofs only [go_sem, Nat.reduceLT, Nat.reduceEqDiff, Nat.reduceAdd, Nat.reduceLeDiff, Nat.reduceMul, Nat.reduceSub, Int.reduceEq, reduceCtorEq, reduceIte, *]
    | (refine call_view (f := .func 21) (by simp -implicitDefEqProofs only [go_sem, Nat.reduceLT, Nat.reduceEqDiff, Nat.reduceAdd, Nat.reduceLeDiff, Nat.reduceMul, Nat.reduceSub, Int.reduceEq, reduceCtorEq, reduceIte] <;> rfl) (by simp -implicitDefEqProofs only [go_sem, Nat.reduceLT, Nat.reduceEqDiff, Nat.reduceAdd, Nat.reduceLeDiff, Nat.reduceMul, Nat.reduceSub, Int.reduceEq, reduceCtorEq, reduceIte] <;> rfl) (by simp -implicitDefEqProofs only [go_sem, Nat.reduceLT, Nat.reduceEqDiff, Nat.reduceAdd, Nat.reduceLeDiff, Nat.reduceMul, Nat.reduceSub, Int.reduceEq, reduceCtorEq, reduceIte]) (by first | trivial | simp) he21 (fun E => c21 _ _ hl hs (by decide) (by decide) E) (fun sv E' hQ => ?_); obtain ⟨r2, hQ, hr2, hr3⟩ := hQ; subst hQ)
    | (refine call_free (f := .func 23) (by simp -implicitDefEqProofs only [go_sem, Nat.reduceLT, Nat.reduceEqDiff, Nat.reduceAdd, Nat.reduceLeDiff, Nat.reduceMul, Nat.reduceSub, Int.reduceEq, reduceCtorEq, reduceIte] <;> rfl) (by simp -implicitDefEqProofs only [go_sem, Nat.reduceLT, Nat.reduceEqDiff, Nat.reduceAdd, Nat.reduceLeDiff, Nat.reduceMul, Nat.reduceSub, Int.reduceEq, reduceCtorEq, reduceIte] <;> rfl) (by simp -implicitDefEqProofs only [go_sem, Nat.reduceLT, Nat.reduceEqDiff, Nat.reduceAdd, Nat.reduceLeDiff, Nat.reduceMul, Nat.reduceSub, Int.reduceEq, reduceCtorEq, reduceIte]) (by first | trivial | simp) he23 (fun E => c23 _ (hr3 (by omega)) E) (fun sv E' hQ => ?_); subst hQ)
    | (refine call_view (f := .func 22) (by simp -implicitDefEqProofs only [go_sem, Nat.reduceLT, Nat.reduceEqDiff, Nat.reduceAdd, Nat.reduceLeDiff, Nat.reduceMul, Nat.reduceSub, Int.reduceEq, reduceCtorEq, reduceIte] <;> rfl) (by simp -implicitDefEqProofs only [go_sem, Nat.reduceLT, Nat.reduceEqDiff, Nat.reduceAdd, Nat.reduceLeDiff, Nat.reduceMul, Nat.reduceSub, Int.reduceEq, reduceCtorEq, reduceIte] <;> rfl) (by simp -implicitDefEqProofs only [go_sem, Nat.reduceLT, Nat.reduceEqDiff, Nat.reduceAdd, Nat.reduceLeDiff, Nat.reduceMul, Nat.reduceSub, Int.reduceEq, reduceCtorEq, reduceIte]) (by first | trivial | simp) he22 (fun E => c22 _ (hr3 (by omega)) E) (fun sv E' hQ => ?_); obtain ⟨i1, j1, b1, hQ, hT1⟩ := hQ; subst hQ; unfold twoSV; refine ⟨by simp [SV.Fresh], ?_⟩)
    | (refine call_view (f := .func 24) (by simp -implicitDefEqProofs only [go_sem, Nat.reduceLT, Nat.reduceEqDiff, Nat.reduceAdd, Nat.reduceLeDiff, Nat.reduceMul, Nat.reduceSub, Int.reduceEq, reduceCtorEq, reduceIte] <;> rfl) (by simp -implicitDefEqProofs only [go_sem, Nat.reduceLT, Nat.reduceEqDiff, Nat.reduceAdd, Nat.reduceLeDiff, Nat.reduceMul, Nat.reduceSub, Int.reduceEq, reduceCtorEq, reduceIte] <;> rfl) (by simp -implicitDefEqProofs only [go_sem, Nat.reduceLT, Nat.reduceEqDiff, Nat.reduceAdd, Nat.reduceLeDiff, Nat.reduceMul, Nat.reduceSub, Int.reduceEq, reduceCtorEq, reduceIte]) (by first | trivial | simp) he24 (fun E => c24 _ (hr3 (by omega)) E) (fun sv E' hQ => ?_); obtain ⟨i2, j2, b2, hQ, hT2⟩ := hQ; obtain ⟨rfl, rfl, rfl⟩ := two_same hT1 hT2; subst hQ; unfold twoSV; refine ⟨by simp [SV.Fresh], ?_⟩)
    | (refine call_view (f := .func 25) (by simp -implicitDefEqProofs only [go_sem, Nat.reduceLT, Nat.reduceEqDiff, Nat.reduceAdd, Nat.reduceLeDiff, Nat.reduceMul, Nat.reduceSub, Int.reduceEq, reduceCtorEq, reduceIte] <;> rfl) (by simp -implicitDefEqProofs only [go_sem, Nat.reduceLT, Nat.reduceEqDiff, Nat.reduceAdd, Nat.reduceLeDiff, Nat.reduceMul, Nat.reduceSub, Int.reduceEq, reduceCtorEq, reduceIte] <;> rfl) (by simp -implicitDefEqProofs only [go_sem, Nat.reduceLT, Nat.reduceEqDiff, Nat.reduceAdd, Nat.reduceLeDiff, Nat.reduceMul, Nat.reduceSub, Int.reduceEq, reduceCtorEq, reduceIte]) (by first | trivial | simp) he25 (fun E => c25 _ _ (hr3 (by omega)) (hr3 (by omega)) E) (fun sv E' hQ => ?_); obtain ⟨b3, hQ, hb⟩ := hQ; obtain rfl := hb rfl; subst hQ)
    | (refine fork_intro (fun h => ?_) (fun h => ?_) <;> try simp only [Int.ofNat_lt, Int.ofNat_le, gdV, decide_eq_true_eq, decide_eq_false_iff_not, Bool.not_eq_true', Bool.not_eq_false', reduceCtorEq, Bool.true_eq_false, Bool.false_eq_true] at h))
  all_goals first | (simp; done) | (exfalso; simp at h; done)

end Go.Proofs.Ytookjkiagdkajaa
