/- What the law's own functions answer: sizes, copies, marks. No condition. -/
import Derived.Test.YtookjkiagdkajaaC4
open Go Go.AI Go.Proofs
set_option maxRecDepth 100000
set_option maxHeartbeats 4000000
set_option linter.unusedSimpArgs false
set_option linter.unusedVariables false
namespace Go.Proofs.Ytookjkiagdkajaa
attribute [local irreducible] awpOps opA callA Then Fork SWP

theorem c85 (op n : Int) (s : ByteArray) (k : Int) (hs : s.size ≤ 140737488355328) (h0 : 0 ≤ k) (hk : k ≤ 1048576) (E) : AC Try.prog 85 [.agg [.lit (.int .i64 op), .lit (.int .i64 n), .lit (.string s)], .one (.lit (.int .i64 k))] E
    (fun sv _ => ∃ r : Int, sv = .one (.lit (.int .i64 r)) ∧ r ≤ k ∧ (0 ≤ r → s.size ≤ 1048576)) := by
  have hw : IntKind.i64.wrap (k - s.size) = k - s.size := wrap64 (by omega) (by omega)
  refine AC_of_swp (n := 13) (rs := [.tmp 4]) hf85 rfl rfl rfl rfl rfl ?_
  repeat' (first
    | refine swp_seq ?_ | refine swp_region ?_ | refine swp_block ?_ | refine swp_skip ?_ | refine swp_ret ?_ | refine swp_exit ?_
    | (refine swp_cond (by simp -implicitDefEqProofs only [go_sem, Nat.reduceLT, Nat.reduceEqDiff, Nat.reduceAdd, Nat.reduceLeDiff, Nat.reduceMul, Nat.reduceSub, Int.reduceEq, reduceCtorEq, reduceIte, *] <;> rfl) (fun h => ?_) (fun h => ?_) <;> try simp only [Int.ofNat_lt, Int.ofNat_le, gdV, decide_eq_true_eq, decide_eq_false_iff_not, Bool.not_eq_true', Bool.not_eq_false', reduceCtorEq, Bool.true_eq_false, Bool.false_eq_true] at h)
    | simp -implicitDefEqProofs only [go_sem, Nat.reduceLT, Nat.reduceEqDiff, Nat.reduceAdd, Nat.reduceLeDiff, Nat.reduceMul, Nat.reduceSub, Int.reduceEq, reduceCtorEq, reduceIte, *]
    | (refine fork_intro (fun h => ?_) (fun h => ?_) <;> try simp only [Int.ofNat_lt, Int.ofNat_le, gdV, decide_eq_true_eq, decide_eq_false_iff_not, Bool.not_eq_true', Bool.not_eq_false', reduceCtorEq, Bool.true_eq_false, Bool.false_eq_true] at h))
  all_goals (refine ⟨by simp, _, rfl, ?_⟩; omega)

theorem c54 (l : List I) (k : Int) (hl : l.length ≤ 140737488355328) (hs : ∀ x ∈ l, x.s.size ≤ 140737488355328) (h0 : 0 ≤ k) (hk : k ≤ 1048576) (E) : AC Try.prog 54 [.one (.sl false 3 (l.map ic)), .one (.lit (.int .i64 k))] E
    (fun sv _ => ∃ r : Int, sv = .one (.lit (.int .i64 r)) ∧ r ≤ k ∧ (0 ≤ r → small l)) := by
  have hw : IntKind.i64.wrap (k - l.length) = k - l.length := wrap64 (by omega) (by omega)
  refine AC_of_swp (n := 27) (rs := [.tmp 4]) hf54 rfl rfl rfl rfl rfl ?_
  repeat' (first
    | refine swp_seq ?_ | refine swp_region ?_ | refine swp_block ?_ | refine swp_skip ?_ | refine swp_ret ?_ | refine swp_exit ?_
    | (refine swp_cond (by simp -implicitDefEqProofs only [go_sem, Nat.reduceLT, Nat.reduceEqDiff, Nat.reduceAdd, Nat.reduceLeDiff, Nat.reduceMul, Nat.reduceSub, Int.reduceEq, reduceCtorEq, reduceIte, *] <;> rfl) (fun h => ?_) (fun h => ?_) <;> try simp only [Int.ofNat_lt, Int.ofNat_le, gdV, decide_eq_true_eq, decide_eq_false_iff_not, Bool.not_eq_true', Bool.not_eq_false', reduceCtorEq, Bool.true_eq_false, Bool.false_eq_true] at h)
    | simp -implicitDefEqProofs only [go_sem, Nat.reduceLT, Nat.reduceEqDiff, Nat.reduceAdd, Nat.reduceLeDiff, Nat.reduceMul, Nat.reduceSub, Int.reduceEq, reduceCtorEq, reduceIte, *]
    | (refine fork_intro (fun h => ?_) (fun h => ?_) <;> try simp only [Int.ofNat_lt, Int.ofNat_le, gdV, decide_eq_true_eq, decide_eq_false_iff_not, Bool.not_eq_true', Bool.not_eq_false', reduceCtorEq, Bool.true_eq_false, Bool.false_eq_true] at h))
  all_goals first | (refine ⟨by simp, _, rfl, ?_⟩; omega) | skip
  have hpos : ¬ (k - (l.length : Int) < 0) := h
  refine swp_loop (ι := { p : Nat × Int // p.1 ≤ l.length ∧ 0 ≤ p.2 ∧ p.2 ≤ k ∧ ∀ j (h : j < l.length), j < p.1 → l[j].s.size ≤ 1048576 }) (fun p => fr 27 [.one (.sl false 3 (l.map ic)), .one (.lit (.int .i64 p.1.2)), .none, .none, .one (.lit (.int .i64 0)), .one (.lit (.int .i64 (p.1.1 : Int)))] [])
    (fun p => l.length - p.1.1) ⟨(0, k - l.length), Nat.zero_le _, (by show (0:Int) ≤ k - l.length; omega), (by show k - (l.length:Int) ≤ k; omega), fun j hj hj0 => by omega⟩ ?_ ?_
  · refine le_fr ?_ ?_ ?_ ?_ <;> simp -implicitDefEqProofs only [go_sem, Nat.reduceLT, Nat.reduceEqDiff, Nat.reduceAdd, Nat.reduceLeDiff, Nat.reduceMul, Nat.reduceSub, Int.reduceEq, reduceCtorEq, reduceIte, *] <;> first | rfl | (rw [wrap64 (by omega) (by omega)]; rfl) | (simp; done) | exact ⟨rfl, rfl⟩ | (refine ⟨rfl, ?_⟩; rw [wrap64 (by omega) (by omega)]; rfl)
  rintro ⟨⟨i, r⟩, hi, hr0, hr, hlow⟩
  simp only at hi hr0 hr hlow ⊢
  have hsz : ∀ h : i < l.length, l[i].s.size ≤ 140737488355328 := fun h => hs _ (List.getElem_mem h)
  repeat' (first
    | refine swp_seq ?_ | refine swp_region ?_ | refine swp_block ?_ | refine swp_skip ?_ | refine swp_ret ?_ | refine swp_exit ?_
    | (refine swp_cond (by simp -implicitDefEqProofs only [go_sem, Nat.reduceLT, Nat.reduceEqDiff, Nat.reduceAdd, Nat.reduceLeDiff, Nat.reduceMul, Nat.reduceSub, Int.reduceEq, reduceCtorEq, reduceIte, *] <;> rfl) (fun h => ?_) (fun h => ?_) <;> try simp only [Int.ofNat_lt, Int.ofNat_le, gdV, decide_eq_true_eq, decide_eq_false_iff_not, Bool.not_eq_true', Bool.not_eq_false', reduceCtorEq, Bool.true_eq_false, Bool.false_eq_true] at h)
    | simp -implicitDefEqProofs only [go_sem, Nat.reduceLT, Nat.reduceEqDiff, Nat.reduceAdd, Nat.reduceLeDiff, Nat.reduceMul, Nat.reduceSub, Int.reduceEq, reduceCtorEq, reduceIte, *]
    | (refine call_view (f := .func 85) (by simp -implicitDefEqProofs only [go_sem, Nat.reduceLT, Nat.reduceEqDiff, Nat.reduceAdd, Nat.reduceLeDiff, Nat.reduceMul, Nat.reduceSub, Int.reduceEq, reduceCtorEq, reduceIte] <;> rfl) (by simp -implicitDefEqProofs only [go_sem, Nat.reduceLT, Nat.reduceEqDiff, Nat.reduceAdd, Nat.reduceLeDiff, Nat.reduceMul, Nat.reduceSub, Int.reduceEq, reduceCtorEq, reduceIte] <;> rfl) (by simp -implicitDefEqProofs only [go_sem, Nat.reduceLT, Nat.reduceEqDiff, Nat.reduceAdd, Nat.reduceLeDiff, Nat.reduceMul, Nat.reduceSub, Int.reduceEq, reduceCtorEq, reduceIte]) (by first | trivial | simp) he85 (fun E => c85 _ _ _ _ (hsz (by assumption)) hr0 (by omega) E) (fun sv E' hQ => ?_); obtain ⟨r2, hQ, hr2, hr3⟩ := hQ; subst hQ)
    | (refine fork_intro (fun h => ?_) (fun h => ?_) <;> try simp only [Int.ofNat_lt, Int.ofNat_le, gdV, decide_eq_true_eq, decide_eq_false_iff_not, Bool.not_eq_true', Bool.not_eq_false', reduceCtorEq, Bool.true_eq_false, Bool.false_eq_true] at h))
  · refine ⟨by simp, _, rfl, ?_⟩; omega
  · rename_i h1
    refine ⟨⟨(i + 1, r2), h1, by show (0:Int) ≤ r2; omega, by show r2 ≤ k; omega, fun j hj hji => ?_⟩, by show l.length - (i + 1) < l.length - i; omega, ?_⟩
    · rcases Nat.lt_or_ge j i with h' | h'
      · exact hlow j hj h'
      · have : j = i := by have : j < i + 1 := hji; omega
        subst this; exact hr3 (by omega)
    · refine le_fr ?_ ?_ ?_ ?_ <;> simp -implicitDefEqProofs only [go_sem, Nat.reduceLT, Nat.reduceEqDiff, Nat.reduceAdd, Nat.reduceLeDiff, Nat.reduceMul, Nat.reduceSub, Int.reduceEq, reduceCtorEq, reduceIte, *] <;> first | rfl | (rw [wrap64 (by omega) (by omega)]; rfl) | (simp; done) | exact ⟨rfl, rfl⟩ | (refine ⟨rfl, ?_⟩; rw [wrap64 (by omega) (by omega)]; rfl)
  · refine ⟨by simp, _, rfl, hr, fun _ => ⟨by omega, fun x hx => ?_⟩⟩
    obtain ⟨j, hj, rfl⟩ := List.getElem_of_mem hx
    exact hlow j hj (by omega)

theorem c16 (nm : ByteArray) (wk : Bool) (l : List I) (k : Int) (hnm : nm.size ≤ 140737488355328) (hl : l.length ≤ 140737488355328) (hs : ∀ x ∈ l, x.s.size ≤ 140737488355328) (h0 : 0 ≤ k) (hk : k ≤ 1048576) (E) : AC Try.prog 16 [.agg [.lit (.string nm), .lit (.bool wk), .sl false 3 (l.map ic)], .one (.lit (.int .i64 k))] E
    (fun sv _ => ∃ r : Int, sv = .one (.lit (.int .i64 r)) ∧ r ≤ k ∧ (0 ≤ r → nm.size ≤ 1048576 ∧ small l)) := by
  have hw : IntKind.i64.wrap (k - nm.size) = k - nm.size := wrap64 (by omega) (by omega)
  refine AC_of_swp (n := 19) (rs := [.tmp 4]) hf16 rfl rfl rfl rfl rfl ?_
  repeat' (first
    | refine swp_seq ?_ | refine swp_region ?_ | refine swp_block ?_ | refine swp_skip ?_ | refine swp_ret ?_ | refine swp_exit ?_
    | (refine swp_cond (by simp -implicitDefEqProofs only [go_sem, Nat.reduceLT, Nat.reduceEqDiff, Nat.reduceAdd, Nat.reduceLeDiff, Nat.reduceMul, Nat.reduceSub, Int.reduceEq, reduceCtorEq, reduceIte, *] <;> rfl) (fun h => ?_) (fun h => ?_) <;> try simp only [Int.ofNat_lt, Int.ofNat_le, gdV, decide_eq_true_eq, decide_eq_false_iff_not, Bool.not_eq_true', Bool.not_eq_false', reduceCtorEq, Bool.true_eq_false, Bool.false_eq_true] at h)
    | simp -implicitDefEqProofs only [go_sem, Nat.reduceLT, Nat.reduceEqDiff, Nat.reduceAdd, Nat.reduceLeDiff, Nat.reduceMul, Nat.reduceSub, Int.reduceEq, reduceCtorEq, reduceIte, *]
    | (refine call_view (f := .func 54) (by simp -implicitDefEqProofs only [go_sem, Nat.reduceLT, Nat.reduceEqDiff, Nat.reduceAdd, Nat.reduceLeDiff, Nat.reduceMul, Nat.reduceSub, Int.reduceEq, reduceCtorEq, reduceIte] <;> rfl) (by simp -implicitDefEqProofs only [go_sem, Nat.reduceLT, Nat.reduceEqDiff, Nat.reduceAdd, Nat.reduceLeDiff, Nat.reduceMul, Nat.reduceSub, Int.reduceEq, reduceCtorEq, reduceIte] <;> rfl) (by simp -implicitDefEqProofs only [go_sem, Nat.reduceLT, Nat.reduceEqDiff, Nat.reduceAdd, Nat.reduceLeDiff, Nat.reduceMul, Nat.reduceSub, Int.reduceEq, reduceCtorEq, reduceIte]) (by first | trivial | simp) he54 (fun E => c54 _ _ hl hs (by omega) (by omega) E) (fun sv E' hQ => ?_); obtain ⟨r2, hQ, hr2, hr3⟩ := hQ; subst hQ)
    | (refine fork_intro (fun h => ?_) (fun h => ?_) <;> try simp only [Int.ofNat_lt, Int.ofNat_le, gdV, decide_eq_true_eq, decide_eq_false_iff_not, Bool.not_eq_true', Bool.not_eq_false', reduceCtorEq, Bool.true_eq_false, Bool.false_eq_true] at h))
  all_goals refine ⟨by simp, _, rfl, ?_⟩
  all_goals first | exact ⟨by omega, fun h => by omega⟩ | exact ⟨by omega, fun h => ⟨by omega, hr3 (by omega)⟩⟩ | (rw [hw] at hr2; exact ⟨by omega, fun h => ⟨by omega, hr3 (by omega)⟩⟩)

/-! Rows that are made one by one. -/
def mixG (f : Nat → I) (i : Nat) (l : List I) : List I := (List.range i).map f ++ l.drop i
theorem mixG_zero {f : Nat → I} {l : List I} : mixG f 0 l = l := by simp [mixG]
theorem mixG_all {f : Nat → I} {i : Nat} {l : List I} (h : l.length ≤ i) : mixG f i l = (List.range i).map f := by simp [mixG, List.drop_eq_nil_of_le h]
theorem mixG_lt {f : Nat → I} {i : Nat} {l : List I} (h : i < l.length) : mixG f i l = (List.range i).map f ++ l[i] :: l.drop (i + 1) := by
  rw [mixG, List.drop_eq_getElem_cons h]
theorem mixG_succ {f : Nat → I} {i : Nat} {l : List I} : mixG f (i + 1) l = (List.range i).map f ++ f i :: l.drop (i + 1) := by
  rw [mixG, List.range_succ, List.map_append, List.append_assoc]; rfl
@[go_sem] theorem mixG_len {f : Nat → I} {i : Nat} {l : List I} (h : i ≤ l.length) : (mixG f i l).length = l.length := by simp [mixG]; omega
@[go_sem high] theorem mixG_get {f : Nat → I} {i : Nat} {l : List I} (h : i < l.length) : ((mixG f i l).map ic)[i]? = some (ic l[i]) := by
  have : i - (List.map ic ((List.range i).map f)).length = 0 := by simp
  rw [mixG_lt h, List.map_append, List.getElem?_append_right (by simp), this]; rfl
theorem mixG_set {f : Nat → I} {i : Nat} {l : List I} (h : i < l.length) : ((mixG f i l).map ic).set i (ic (f i)) = (mixG f (i + 1) l).map ic := by
  rw [mixG_lt h, mixG_succ, List.map_append, List.map_append, List.set_append_right _ _ (by simp)]
  congr 1
  have : i - (List.map ic ((List.range i).map f)).length = 0 := by simp
  rw [this]; rfl
theorem cast32 : ((32 : Nat) : Int) = 32 := rfl
attribute [go_sem] cast32 List.length_replicate List.length_set List.set_set List.getElem?_set_self

def zI : I := ⟨0, 0, ⟨#[]⟩⟩
theorem c86 (op n : Int) (s : ByteArray) (E) : AC Try.prog 86 [.agg [.lit (.int .i64 op), .lit (.int .i64 n), .lit (.string s)]] E
    (fun sv _ => sv = .agg [.lit (.int .i64 op), .lit (.int .i64 n), .lit (.string s)]) := by
  refine AC_of_swp (n := 14) (rs := [.cell 2 33]) hf86 rfl rfl rfl rfl rfl ?_
  repeat' (first
    | refine swp_seq ?_ | refine swp_region ?_ | refine swp_block ?_ | refine swp_skip ?_ | refine swp_ret ?_ | refine swp_exit ?_
    | (refine swp_cond (by simp -implicitDefEqProofs only [go_sem, Nat.reduceLT, Nat.reduceEqDiff, Nat.reduceAdd, Nat.reduceLeDiff, Nat.reduceMul, Nat.reduceSub, Int.reduceEq, reduceCtorEq, reduceIte, *] <;> rfl) (fun h => ?_) (fun h => ?_) <;> try simp only [Int.ofNat_lt, Int.ofNat_le, gdV, decide_eq_true_eq, decide_eq_false_iff_not, Bool.not_eq_true', Bool.not_eq_false', reduceCtorEq, Bool.true_eq_false, Bool.false_eq_true] at h)
    | simp -implicitDefEqProofs only [go_sem, Nat.reduceLT, Nat.reduceEqDiff, Nat.reduceAdd, Nat.reduceLeDiff, Nat.reduceMul, Nat.reduceSub, Int.reduceEq, reduceCtorEq, reduceIte, *]
    | (refine fork_intro (fun h => ?_) (fun h => ?_) <;> try simp only [Int.ofNat_lt, Int.ofNat_le, gdV, decide_eq_true_eq, decide_eq_false_iff_not, Bool.not_eq_true', Bool.not_eq_false', reduceCtorEq, Bool.true_eq_false, Bool.false_eq_true] at h))
  all_goals simp

theorem getD_range (l : List I) : (List.range l.length).map (fun j => l.getD j zI) = l := by
  apply List.ext_getElem (by simp)
  intro i h1 h2
  simp [h2]

def mstep (n : Nat) (acc : ByteArray) : ByteArray := strOfNums [IntKind.u8.wrap (48 + ((n % 10 : Nat) : Int))] ++ acc
def mdig (n : Nat) (acc : ByteArray) : ByteArray := if h : n = 0 then acc else mdig (n / 10) (mstep n acc)
  termination_by n
  decreasing_by omega
def mtext (n : Nat) : ByteArray := if n = 0 then ⟨#[109, 48]⟩ else ⟨#[109]⟩ ++ mdig n ⟨#[]⟩

theorem c55 (l : List I) (hl : small l) (E) : AC Try.prog 55 [.one (.sl false 3 (l.map ic))] E (fun sv _ => sv = .one (.sl true 3 (l.map ic))) := by
  have hl1 := hl.1
  have hA : (32 : Int) * l.length ≤ 281474976710656 := by omega
  have hB : (l.length : Int) ≤ 9223372036854775807 := by omega
  have hrep : List.replicate l.length [D.lit (.int .i64 0), D.lit (.int .i64 0), D.lit (.string ⟨#[]⟩)] = (List.replicate l.length zI).map ic := by simp [zI, ic]
  refine AC_of_swp (n := 23) (rs := [.tmp 2]) hf55 rfl rfl rfl rfl rfl ?_
  repeat' (first
    | refine swp_seq ?_ | refine swp_region ?_ | refine swp_block ?_ | refine swp_skip ?_ | refine swp_ret ?_ | refine swp_exit ?_
    | (refine swp_cond (by simp -implicitDefEqProofs only [go_sem, Nat.reduceLT, Nat.reduceEqDiff, Nat.reduceAdd, Nat.reduceLeDiff, Nat.reduceMul, Nat.reduceSub, Int.reduceEq, reduceCtorEq, reduceIte, *] <;> rfl) (fun h => ?_) (fun h => ?_) <;> try simp only [Int.ofNat_lt, Int.ofNat_le, gdV, decide_eq_true_eq, decide_eq_false_iff_not, Bool.not_eq_true', Bool.not_eq_false', reduceCtorEq, Bool.true_eq_false, Bool.false_eq_true] at h)
    | simp -implicitDefEqProofs only [go_sem, Nat.reduceLT, Nat.reduceEqDiff, Nat.reduceAdd, Nat.reduceLeDiff, Nat.reduceMul, Nat.reduceSub, Int.reduceEq, reduceCtorEq, reduceIte, *]
    | (refine fork_intro (fun h => ?_) (fun h => ?_) <;> try simp only [Int.ofNat_lt, Int.ofNat_le, gdV, decide_eq_true_eq, decide_eq_false_iff_not, Bool.not_eq_true', Bool.not_eq_false', reduceCtorEq, Bool.true_eq_false, Bool.false_eq_true] at h))
  refine swp_loop (ι := { i : Nat // i ≤ l.length }) (fun i => fr 23 [.one (.sl false 3 (l.map ic)), .none, .none, .one (.sl true 3 ((mixG (fun j => l.getD j zI) i.1 (List.replicate l.length zI)).map ic)), .one (.lit (.int .i64 (i.1 : Int)))] [])
    (fun i => l.length - i.1) ⟨0, Nat.zero_le _⟩ ?_ ?_
  · rw [mixG_zero]; refine le_fr ?_ ?_ ?_ ?_ <;> simp -implicitDefEqProofs only [go_sem, Nat.reduceLT, Nat.reduceEqDiff, Nat.reduceAdd, Nat.reduceLeDiff, Nat.reduceMul, Nat.reduceSub, Int.reduceEq, reduceCtorEq, reduceIte, *] <;> first | rfl | (rw [wrap64 (by omega) (by omega)]; rfl) | (simp; done) | exact ⟨rfl, rfl⟩ | (refine ⟨rfl, ?_⟩; rw [wrap64 (by omega) (by omega)]; rfl)
  rintro ⟨i, hi⟩
  have hi' : i ≤ (List.replicate l.length zI).length := by simpa using hi
  have hset : ∀ h : i < l.length, ((mixG (fun j => l.getD j zI) i (List.replicate l.length zI)).map ic).set i (ic l[i]) = (mixG (fun j => l.getD j zI) (i + 1) (List.replicate l.length zI)).map ic := fun h => by
    have := mixG_set (f := fun j => l.getD j zI) (i := i) (l := List.replicate l.length zI) (by simpa using h)
    rw [← this]; simp [h]
  repeat' (first
    | refine swp_seq ?_ | refine swp_region ?_ | refine swp_block ?_ | refine swp_skip ?_ | refine swp_ret ?_ | refine swp_exit ?_
    | (refine swp_cond (by simp -implicitDefEqProofs only [go_sem, Nat.reduceLT, Nat.reduceEqDiff, Nat.reduceAdd, Nat.reduceLeDiff, Nat.reduceMul, Nat.reduceSub, Int.reduceEq, reduceCtorEq, reduceIte, *] <;> rfl) (fun h => ?_) (fun h => ?_) <;> try simp only [Int.ofNat_lt, Int.ofNat_le, gdV, decide_eq_true_eq, decide_eq_false_iff_not, Bool.not_eq_true', Bool.not_eq_false', reduceCtorEq, Bool.true_eq_false, Bool.false_eq_true] at h)
    | simp -implicitDefEqProofs only [go_sem, Nat.reduceLT, Nat.reduceEqDiff, Nat.reduceAdd, Nat.reduceLeDiff, Nat.reduceMul, Nat.reduceSub, Int.reduceEq, reduceCtorEq, reduceIte, *]
    | (refine call_view (f := .func 86) (by simp -implicitDefEqProofs only [go_sem, Nat.reduceLT, Nat.reduceEqDiff, Nat.reduceAdd, Nat.reduceLeDiff, Nat.reduceMul, Nat.reduceSub, Int.reduceEq, reduceCtorEq, reduceIte] <;> rfl) (by simp -implicitDefEqProofs only [go_sem, Nat.reduceLT, Nat.reduceEqDiff, Nat.reduceAdd, Nat.reduceLeDiff, Nat.reduceMul, Nat.reduceSub, Int.reduceEq, reduceCtorEq, reduceIte] <;> rfl) (by simp -implicitDefEqProofs only [go_sem, Nat.reduceLT, Nat.reduceEqDiff, Nat.reduceAdd, Nat.reduceLeDiff, Nat.reduceMul, Nat.reduceSub, Int.reduceEq, reduceCtorEq, reduceIte]) (by first | trivial | simp) he86 (fun E => c86 _ _ _ E) (fun sv E' hQ => ?_); subst hQ; refine ⟨by simp [SV.Fresh], ?_⟩)
    | (refine fork_intro (fun h => ?_) (fun h => ?_) <;> try simp only [Int.ofNat_lt, Int.ofNat_le, gdV, decide_eq_true_eq, decide_eq_false_iff_not, Bool.not_eq_true', Bool.not_eq_false', reduceCtorEq, Bool.true_eq_false, Bool.false_eq_true] at h))
  · replace hset := hset h
    rw [ic_eq] at hset
    refine ⟨⟨i + 1, h⟩, by show l.length - (i + 1) < l.length - i; omega, ?_⟩
    refine le_fr ?_ ?_ ?_ ?_ <;> simp -implicitDefEqProofs only [go_sem, Nat.reduceLT, Nat.reduceEqDiff, Nat.reduceAdd, Nat.reduceLeDiff, Nat.reduceMul, Nat.reduceSub, Int.reduceEq, reduceCtorEq, reduceIte, *] <;> first | rfl | (rw [wrap64 (by omega) (by omega)]; rfl) | (simp; done) | exact ⟨rfl, rfl⟩ | (refine ⟨rfl, ?_⟩; rw [wrap64 (by omega) (by omega)]; rfl)
  · refine ⟨by simp, ?_⟩
    have : i = l.length := by omega
    subst this
    rw [mixG_all (by simp), getD_range]

theorem c17 (nm : ByteArray) (wk : Bool) (l : List I) (hl : small l) (E) : AC Try.prog 17 [.agg [.lit (.string nm), .lit (.bool wk), .sl false 3 (l.map ic)]] E
    (fun sv _ => sv = .agg [.lit (.string nm), .lit (.bool wk), .sl true 3 (l.map ic)]) := by
  refine AC_of_swp (n := 15) (rs := [.cell 2 25]) hf17 rfl rfl rfl rfl rfl ?_
  repeat' (first
    | refine swp_seq ?_ | refine swp_region ?_ | refine swp_block ?_ | refine swp_skip ?_ | refine swp_ret ?_ | refine swp_exit ?_
    | (refine swp_cond (by simp -implicitDefEqProofs only [go_sem, Nat.reduceLT, Nat.reduceEqDiff, Nat.reduceAdd, Nat.reduceLeDiff, Nat.reduceMul, Nat.reduceSub, Int.reduceEq, reduceCtorEq, reduceIte, *] <;> rfl) (fun h => ?_) (fun h => ?_) <;> try simp only [Int.ofNat_lt, Int.ofNat_le, gdV, decide_eq_true_eq, decide_eq_false_iff_not, Bool.not_eq_true', Bool.not_eq_false', reduceCtorEq, Bool.true_eq_false, Bool.false_eq_true] at h)
    | simp -implicitDefEqProofs only [go_sem, Nat.reduceLT, Nat.reduceEqDiff, Nat.reduceAdd, Nat.reduceLeDiff, Nat.reduceMul, Nat.reduceSub, Int.reduceEq, reduceCtorEq, reduceIte, *]
    | (refine call_view (f := .func 55) (by simp -implicitDefEqProofs only [go_sem, Nat.reduceLT, Nat.reduceEqDiff, Nat.reduceAdd, Nat.reduceLeDiff, Nat.reduceMul, Nat.reduceSub, Int.reduceEq, reduceCtorEq, reduceIte] <;> rfl) (by simp -implicitDefEqProofs only [go_sem, Nat.reduceLT, Nat.reduceEqDiff, Nat.reduceAdd, Nat.reduceLeDiff, Nat.reduceMul, Nat.reduceSub, Int.reduceEq, reduceCtorEq, reduceIte] <;> rfl) (by simp -implicitDefEqProofs only [go_sem, Nat.reduceLT, Nat.reduceEqDiff, Nat.reduceAdd, Nat.reduceLeDiff, Nat.reduceMul, Nat.reduceSub, Int.reduceEq, reduceCtorEq, reduceIte]) (by first | trivial | simp) he55 (fun E => c55 _ hl E) (fun sv E' hQ => ?_); subst hQ; refine ⟨by simp [SV.Fresh, -fresh_sl, -List.map_map, frs], ?_⟩)
    | (refine fork_intro (fun h => ?_) (fun h => ?_) <;> try simp only [Int.ofNat_lt, Int.ofNat_le, gdV, decide_eq_true_eq, decide_eq_false_iff_not, Bool.not_eq_true', Bool.not_eq_false', reduceCtorEq, Bool.true_eq_false, Bool.false_eq_true] at h))
  all_goals simp

instance : DecidableEq I := fun a b => if h : a.op = b.op ∧ a.n = b.n ∧ a.s = b.s then .isTrue (by cases a; cases b; simp_all) else .isFalse (by rintro rfl; simp at h)

theorem c87 (x y : I) (E) : AC Try.prog 87 [.agg [.lit (.int .i64 x.op), .lit (.int .i64 x.n), .lit (.string x.s)], .agg [.lit (.int .i64 y.op), .lit (.int .i64 y.n), .lit (.string y.s)]] E
    (fun sv _ => sv = .one (.lit (.bool (decide (x = y))))) := by
  have key : (x = y) ↔ x.op = y.op ∧ x.n = y.n ∧ x.s = y.s := by
    constructor
    · rintro rfl; simp
    · intro h; cases x; cases y; simp_all
  refine AC_of_swp (n := 20) (rs := [.tmp 4]) hf87 rfl rfl rfl rfl rfl ?_
  repeat' (first
    | refine swp_seq ?_ | refine swp_region ?_ | refine swp_block ?_ | refine swp_skip ?_ | refine swp_ret ?_ | refine swp_exit ?_
    | (refine swp_cond (by simp -implicitDefEqProofs only [go_sem, Nat.reduceLT, Nat.reduceEqDiff, Nat.reduceAdd, Nat.reduceLeDiff, Nat.reduceMul, Nat.reduceSub, Int.reduceEq, reduceCtorEq, reduceIte, *] <;> rfl) (fun h => ?_) (fun h => ?_) <;> try simp only [Int.ofNat_lt, Int.ofNat_le, gdV, decide_eq_true_eq, decide_eq_false_iff_not, Bool.not_eq_true', Bool.not_eq_false', reduceCtorEq, Bool.true_eq_false, Bool.false_eq_true] at h)
    | simp -implicitDefEqProofs only [go_sem, Nat.reduceLT, Nat.reduceEqDiff, Nat.reduceAdd, Nat.reduceLeDiff, Nat.reduceMul, Nat.reduceSub, Int.reduceEq, reduceCtorEq, reduceIte, *]
    | (refine fork_intro (fun h => ?_) (fun h => ?_) <;> try simp only [Int.ofNat_lt, Int.ofNat_le, gdV, decide_eq_true_eq, decide_eq_false_iff_not, Bool.not_eq_true', Bool.not_eq_false', reduceCtorEq, Bool.true_eq_false, Bool.false_eq_true] at h))
  all_goals first | (simp; done) | (refine ⟨by simp, ?_⟩; simp [key, *])

theorem c76 (n : Nat) (hn : n ≤ 4611686018427387904) (E) : AC Try.prog 76 [.one (.lit (.int .i64 n))] E
    (fun sv _ => sv = .one (.lit (.string (mtext n)))) := by
  refine AC_of_swp (n := 20) (rs := [.tmp 2]) hf76 rfl rfl rfl rfl rfl ?_
  repeat' (first
    | refine swp_seq ?_ | refine swp_region ?_ | refine swp_block ?_ | refine swp_skip ?_ | refine swp_ret ?_ | refine swp_exit ?_
    | (refine swp_cond (by simp -implicitDefEqProofs only [go_sem, Nat.reduceLT, Nat.reduceEqDiff, Nat.reduceAdd, Nat.reduceLeDiff, Nat.reduceMul, Nat.reduceSub, Int.reduceEq, reduceCtorEq, reduceIte, *] <;> rfl) (fun h => ?_) (fun h => ?_) <;> try simp only [Int.ofNat_lt, Int.ofNat_le, gdV, decide_eq_true_eq, decide_eq_false_iff_not, Bool.not_eq_true', Bool.not_eq_false', reduceCtorEq, Bool.true_eq_false, Bool.false_eq_true] at h)
    | simp -implicitDefEqProofs only [go_sem, Nat.reduceLT, Nat.reduceEqDiff, Nat.reduceAdd, Nat.reduceLeDiff, Nat.reduceMul, Nat.reduceSub, Int.reduceEq, reduceCtorEq, reduceIte, *]
    | (refine fork_intro (fun h => ?_) (fun h => ?_) <;> try simp only [Int.ofNat_lt, Int.ofNat_le, gdV, decide_eq_true_eq, decide_eq_false_iff_not, Bool.not_eq_true', Bool.not_eq_false', reduceCtorEq, Bool.true_eq_false, Bool.false_eq_true] at h))
  · have : n = 0 := by omega
    subst this
    exact ⟨by simp, by simp [mtext]⟩
  refine swp_loop (ι := { p : Nat × ByteArray // p.1 + p.2.size ≤ n ∧ mdig p.1 p.2 = mdig n ⟨#[]⟩ }) (fun p => fr 20 [.one (.lit (.int .i64 p.1.1)), .none, .one (.lit (.string ⟨#[]⟩)), .one (.lit (.string p.1.2))] [])
    (fun p => p.1.1) ⟨(n, ⟨#[]⟩), Nat.le_refl _, rfl⟩ ?_ ?_
  · refine le_fr ?_ ?_ ?_ ?_ <;> simp -implicitDefEqProofs only [go_sem, Nat.reduceLT, Nat.reduceEqDiff, Nat.reduceAdd, Nat.reduceLeDiff, Nat.reduceMul, Nat.reduceSub, Int.reduceEq, reduceCtorEq, reduceIte, *] <;> first | rfl | (rw [wrap64 (by omega) (by omega)]; rfl) | (simp; done) | exact ⟨rfl, rfl⟩ | (refine ⟨rfl, ?_⟩; rw [wrap64 (by omega) (by omega)]; rfl)
  rintro ⟨⟨i, acc⟩, hi, hinv⟩
  simp only at hi hinv ⊢
  have f1 : (i : Int).tmod 10 = ((i % 10 : Nat) : Int) := rfl
  have f2 : (i : Int).tdiv 10 = ((i / 10 : Nat) : Int) := rfl
  have f3 : IntKind.i64.wrap (48 + ((i % 10 : Nat) : Int)) = 48 + ((i % 10 : Nat) : Int) := wrap64 (by omega) (by omega)
  have f4 : IntKind.i64.wrap ((i / 10 : Nat) : Int) = ((i / 10 : Nat) : Int) := wrap64 (by omega) (by omega)
  have f5 : (#[109] : Array UInt8).size + acc.size ≤ 9223372036854775807 := by simp; omega
  have f6 : (strOfNums [IntKind.u8.wrap (48 + ((i % 10 : Nat) : Int))]).size + acc.size ≤ 9223372036854775807 := by
    have : (strOfNums [IntKind.u8.wrap (48 + ((i % 10 : Nat) : Int))]).size = 1 := rfl
    omega
  repeat' (first
    | refine swp_seq ?_ | refine swp_region ?_ | refine swp_block ?_ | refine swp_skip ?_ | refine swp_ret ?_ | refine swp_exit ?_
    | (refine swp_cond (by simp -implicitDefEqProofs only [go_sem, Nat.reduceLT, Nat.reduceEqDiff, Nat.reduceAdd, Nat.reduceLeDiff, Nat.reduceMul, Nat.reduceSub, Int.reduceEq, reduceCtorEq, reduceIte, *] <;> rfl) (fun h => ?_) (fun h => ?_) <;> try simp only [Int.ofNat_lt, Int.ofNat_le, gdV, decide_eq_true_eq, decide_eq_false_iff_not, Bool.not_eq_true', Bool.not_eq_false', reduceCtorEq, Bool.true_eq_false, Bool.false_eq_true] at h)
    | simp -implicitDefEqProofs only [go_sem, Nat.reduceLT, Nat.reduceEqDiff, Nat.reduceAdd, Nat.reduceLeDiff, Nat.reduceMul, Nat.reduceSub, Int.reduceEq, reduceCtorEq, reduceIte, *]
    | (refine fork_intro (fun h => ?_) (fun h => ?_) <;> try simp only [Int.ofNat_lt, Int.ofNat_le, gdV, decide_eq_true_eq, decide_eq_false_iff_not, Bool.not_eq_true', Bool.not_eq_false', reduceCtorEq, Bool.true_eq_false, Bool.false_eq_true] at h))
  · have h0 : 0 < i := by omega
    have e : (mstep i acc) = strOfNums [IntKind.u8.wrap (48 + ((i % 10 : Nat) : Int))] ++ acc := rfl
    have hs : (mstep i acc).size = 1 + acc.size := by
      rw [e, ByteArray.size_append]; rfl
    rw [mdig, dif_neg (by omega)] at hinv
    rw [← e]
    refine ⟨⟨(i / 10, mstep i acc), by show i / 10 + (mstep i acc).size ≤ n; omega, hinv⟩, by show i / 10 < i; omega, ?_⟩
    refine le_fr ?_ ?_ ?_ ?_ <;> simp -implicitDefEqProofs only [go_sem, Nat.reduceLT, Nat.reduceEqDiff, Nat.reduceAdd, Nat.reduceLeDiff, Nat.reduceMul, Nat.reduceSub, Int.reduceEq, reduceCtorEq, reduceIte, *] <;> first | rfl | (rw [wrap64 (by omega) (by omega)]; rfl) | (simp; done) | exact ⟨rfl, rfl⟩ | (refine ⟨rfl, ?_⟩; rw [wrap64 (by omega) (by omega)]; rfl)
  · have h0 : i = 0 := by omega
    subst h0
    rw [mdig, dif_pos rfl] at hinv
    exact ⟨by simp, by rw [hinv, mtext, if_neg (by omega)]⟩

def mk (k : Nat) (j : Nat) : I := ⟨((k + 3 * j : Nat) : Int), ((k + 3 * j + 1 : Nat) : Int), mtext (k + 3 * j + 2)⟩
def marked (k : Nat) (l : List I) : List I := (List.range l.length).map (mk k)

attribute [go_sem] vbase extOut
theorem c57 (nm : ByteArray) (wk : Bool) (l : List I) (k : Nat) (hl : l.length ≤ 1048576) (hk : k ≤ 1048576) (E) (hE : E 100000 = some (true, [.lit (.string nm), .lit (.bool wk), .sl true 3 (l.map ic)])) : AC Try.prog 57 [.one (.bor (.v 100000) [(0, 2)] 0 none), .one (.lit (.int .i64 (k : Int)))] E
    (fun sv E' => sv = .one (.lit (.int .i64 ((k + 3 * l.length : Nat) : Int))) ∧ E' 100000 = some (true, [.lit (.string nm), .lit (.bool wk), .sl true 3 ((marked k l).map ic)])) := by
  refine AC_of_swp (n := 35) (rs := [.tmp 4]) hf57 rfl rfl rfl rfl rfl ?_
  repeat' (first
    | refine swp_seq ?_ | refine swp_region ?_ | refine swp_block ?_ | refine swp_skip ?_ | refine swp_ret ?_ | refine swp_exit ?_
    | (refine swp_cond (by simp -implicitDefEqProofs only [go_sem, Nat.reduceLT, Nat.reduceEqDiff, Nat.reduceAdd, Nat.reduceLeDiff, Nat.reduceMul, Nat.reduceSub, Int.reduceEq, reduceCtorEq, reduceIte, *] <;> rfl) (fun h => ?_) (fun h => ?_) <;> try simp only [Int.ofNat_lt, Int.ofNat_le, gdV, decide_eq_true_eq, decide_eq_false_iff_not, Bool.not_eq_true', Bool.not_eq_false', reduceCtorEq, Bool.true_eq_false, Bool.false_eq_true] at h)
    | simp -implicitDefEqProofs only [go_sem, Nat.reduceLT, Nat.reduceEqDiff, Nat.reduceAdd, Nat.reduceLeDiff, Nat.reduceMul, Nat.reduceSub, Int.reduceEq, reduceCtorEq, reduceIte, *]
    | (refine fork_intro (fun h => ?_) (fun h => ?_) <;> try simp only [Int.ofNat_lt, Int.ofNat_le, gdV, decide_eq_true_eq, decide_eq_false_iff_not, Bool.not_eq_true', Bool.not_eq_false', reduceCtorEq, Bool.true_eq_false, Bool.false_eq_true] at h))
  refine swp_loop (ι := { i : Nat // i ≤ l.length }) (fun i => fr 35 [.one (.bor (.v 100000) [(0, 2)] 0 none), .one (.lit (.int .i64 ((k + 3 * i.1 : Nat) : Int))), .none, .none, .one (.lit (.int .i64 0)), .one (.lit (.int .i64 (i.1 : Int)))] [(100000, true, [.lit (.string nm), .lit (.bool wk), .sl true 3 ((mixG (mk k) i.1 l).map ic)])])
    (fun i => l.length - i.1) ⟨0, Nat.zero_le _⟩ ?_ ?_
  · rw [mixG_zero]; refine le_fr ?_ ?_ ?_ ?_ <;> simp -implicitDefEqProofs only [go_sem, Nat.reduceLT, Nat.reduceEqDiff, Nat.reduceAdd, Nat.reduceLeDiff, Nat.reduceMul, Nat.reduceSub, Int.reduceEq, reduceCtorEq, reduceIte, *] <;> first | rfl | (rw [wrap64 (by omega) (by omega)]; rfl) | (simp; done) | exact ⟨rfl, rfl⟩ | (refine ⟨rfl, ?_⟩; rw [wrap64 (by omega) (by omega)]; rfl)
  rintro ⟨i, hi⟩
  simp only
  have hset := fun h => mixG_set (f := mk k) (i := i) (l := l) h
  simp only [ic_eq, mk] at hset
  have w1 : IntKind.i64.wrap (((k + 3 * i : Nat) : Int) + 1) = ((k + 3 * i + 1 : Nat) : Int) := by rw [wrap64 (by omega) (by omega)]; omega
  have w2 : IntKind.i64.wrap (((k + 3 * i + 1 : Nat) : Int) + 1) = ((k + 3 * i + 2 : Nat) : Int) := by rw [wrap64 (by omega) (by omega)]; omega
  have w3 : IntKind.i64.wrap (((k + 3 * i + 2 : Nat) : Int) + 1) = ((k + 3 * (i + 1) : Nat) : Int) := by rw [wrap64 (by omega) (by omega)]; omega
  have hm : k + 3 * i + 2 ≤ 4611686018427387904 := by omega
  repeat' (first
    | refine swp_seq ?_ | refine swp_region ?_ | refine swp_block ?_ | refine swp_skip ?_ | refine swp_ret ?_ | refine swp_exit ?_
    | (refine swp_cond (by simp -implicitDefEqProofs only [go_sem, Nat.reduceLT, Nat.reduceEqDiff, Nat.reduceAdd, Nat.reduceLeDiff, Nat.reduceMul, Nat.reduceSub, Int.reduceEq, reduceCtorEq, reduceIte, *] <;> rfl) (fun h => ?_) (fun h => ?_) <;> try simp only [Int.ofNat_lt, Int.ofNat_le, gdV, decide_eq_true_eq, decide_eq_false_iff_not, Bool.not_eq_true', Bool.not_eq_false', reduceCtorEq, Bool.true_eq_false, Bool.false_eq_true] at h)
    | simp -implicitDefEqProofs only [go_sem, Nat.reduceLT, Nat.reduceEqDiff, Nat.reduceAdd, Nat.reduceLeDiff, Nat.reduceMul, Nat.reduceSub, Int.reduceEq, reduceCtorEq, reduceIte, *]
    | (refine call_view (f := .func 76) (by simp -implicitDefEqProofs only [go_sem, Nat.reduceLT, Nat.reduceEqDiff, Nat.reduceAdd, Nat.reduceLeDiff, Nat.reduceMul, Nat.reduceSub, Int.reduceEq, reduceCtorEq, reduceIte] <;> rfl) (by simp -implicitDefEqProofs only [go_sem, Nat.reduceLT, Nat.reduceEqDiff, Nat.reduceAdd, Nat.reduceLeDiff, Nat.reduceMul, Nat.reduceSub, Int.reduceEq, reduceCtorEq, reduceIte] <;> rfl) (by simp -implicitDefEqProofs only [go_sem, Nat.reduceLT, Nat.reduceEqDiff, Nat.reduceAdd, Nat.reduceLeDiff, Nat.reduceMul, Nat.reduceSub, Int.reduceEq, reduceCtorEq, reduceIte]) (by first | trivial | simp) he76 (fun E => c76 _ hm E) (fun sv E' hQ => ?_); subst hQ)
    | (refine fork_intro (fun h => ?_) (fun h => ?_) <;> try simp only [Int.ofNat_lt, Int.ofNat_le, gdV, decide_eq_true_eq, decide_eq_false_iff_not, Bool.not_eq_true', Bool.not_eq_false', reduceCtorEq, Bool.true_eq_false, Bool.false_eq_true] at h))
  · refine ⟨⟨i + 1, h⟩, by show l.length - (i + 1) < l.length - i; omega, ?_⟩
    replace hset := hset h
    refine le_fr ?_ ?_ ?_ ?_ <;> simp -implicitDefEqProofs only [go_sem, Nat.reduceLT, Nat.reduceEqDiff, Nat.reduceAdd, Nat.reduceLeDiff, Nat.reduceMul, Nat.reduceSub, Int.reduceEq, reduceCtorEq, reduceIte, *] <;> first | rfl | (rw [wrap64 (by omega) (by omega)]; rfl) | (simp; done) | exact ⟨rfl, rfl⟩ | (refine ⟨rfl, ?_⟩; rw [wrap64 (by omega) (by omega)]; rfl)
  · have : i = l.length := by omega
    subst this
    rw [mixG_all (Nat.le_refl _)]
    exact ⟨by simp, rfl, rfl⟩

theorem c19 (nm : ByteArray) (wk : Bool) (l : List I) (k : Nat) (hl : l.length ≤ 1048576) (hk : k ≤ 1048576) (E) (hE : E 100000 = some (true, [.lit (.string nm), .lit (.bool wk), .sl true 3 (l.map ic)])) : AC Try.prog 19 [.agg [.lit (.string nm), .lit (.bool wk), .bor (.v 100000) [(0, 2)] 0 none], .one (.lit (.int .i64 (k : Int)))] E
    (fun sv E' => sv = .one (.lit (.int .i64 ((k + 3 * l.length : Nat) : Int))) ∧ E' 100000 = some (true, [.lit (.string nm), .lit (.bool wk), .sl true 3 ((marked k l).map ic)])) := by
  refine AC_of_swp (n := 10) (rs := [.tmp 4]) hf19 rfl rfl rfl rfl rfl ?_
  repeat' (first
    | refine swp_seq ?_ | refine swp_region ?_ | refine swp_block ?_ | refine swp_skip ?_ | refine swp_ret ?_ | refine swp_exit ?_
    | (refine swp_cond (by simp -implicitDefEqProofs only [go_sem, Nat.reduceLT, Nat.reduceEqDiff, Nat.reduceAdd, Nat.reduceLeDiff, Nat.reduceMul, Nat.reduceSub, Int.reduceEq, reduceCtorEq, reduceIte, *] <;> rfl) (fun h => ?_) (fun h => ?_) <;> try simp only [Int.ofNat_lt, Int.ofNat_le, gdV, decide_eq_true_eq, decide_eq_false_iff_not, Bool.not_eq_true', Bool.not_eq_false', reduceCtorEq, Bool.true_eq_false, Bool.false_eq_true] at h)
    | simp -implicitDefEqProofs only [go_sem, Nat.reduceLT, Nat.reduceEqDiff, Nat.reduceAdd, Nat.reduceLeDiff, Nat.reduceMul, Nat.reduceSub, Int.reduceEq, reduceCtorEq, reduceIte, *]
    | (refine call_lend 100000 (f := .func 57) (by simp -implicitDefEqProofs only [go_sem, Nat.reduceLT, Nat.reduceEqDiff, Nat.reduceAdd, Nat.reduceLeDiff, Nat.reduceMul, Nat.reduceSub, Int.reduceEq, reduceCtorEq, reduceIte] <;> rfl) (by simp -implicitDefEqProofs only [go_sem, Nat.reduceLT, Nat.reduceEqDiff, Nat.reduceAdd, Nat.reduceLeDiff, Nat.reduceMul, Nat.reduceSub, Int.reduceEq, reduceCtorEq, reduceIte] <;> rfl) (by simp -implicitDefEqProofs only [go_sem, Nat.reduceLT, Nat.reduceEqDiff, Nat.reduceAdd, Nat.reduceLeDiff, Nat.reduceMul, Nat.reduceSub, Int.reduceEq, reduceCtorEq, reduceIte, *] <;> rfl) (by simp -implicitDefEqProofs only [go_sem, Nat.reduceLT, Nat.reduceEqDiff, Nat.reduceAdd, Nat.reduceLeDiff, Nat.reduceMul, Nat.reduceSub, Int.reduceEq, reduceCtorEq, reduceIte] <;> rfl) (by simp -implicitDefEqProofs only [go_sem, Nat.reduceLT, Nat.reduceEqDiff, Nat.reduceAdd, Nat.reduceLeDiff, Nat.reduceMul, Nat.reduceSub, Int.reduceEq, reduceCtorEq, reduceIte]) trivial trivial he57 (fun E hE => c57 _ _ _ _ hl hk E hE) (fun sv E' hQ => ?_); obtain ⟨hQ, hE'⟩ := hQ; subst hQ; refine ⟨by simp [SV.Fresh], _, hE', by simp [-fresh_sl, -List.map_map, frs], ?_⟩)
    | (refine fork_intro (fun h => ?_) (fun h => ?_) <;> try simp only [Int.ofNat_lt, Int.ofNat_le, gdV, decide_eq_true_eq, decide_eq_false_iff_not, Bool.not_eq_true', Bool.not_eq_false', reduceCtorEq, Bool.true_eq_false, Bool.false_eq_true] at h))
  all_goals simp

end Go.Proofs.Ytookjkiagdkajaa
