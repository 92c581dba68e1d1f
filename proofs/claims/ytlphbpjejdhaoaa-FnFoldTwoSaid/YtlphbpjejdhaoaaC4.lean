/- Renaming, by the program and by the specification. No condition. -/
import Derived.Test.YtlphbpjejdhaoaaC3
open Go Go.AI Go.Proofs
set_option maxRecDepth 100000
set_option maxHeartbeats 4000000
set_option linter.unusedSimpArgs false
set_option linter.unusedVariables false
namespace Go.Proofs.Ytlphbpjejdhaoaa
attribute [local irreducible] awpOps opA callA Then Fork SWP

def zfun : SV := .agg [.lit (.string ⟨#[]⟩), .lit (.bool false), .nil]
def ren (a b : ByteArray) (x : I) : I := if refers x.op = true ∧ x.s = a then { x with s := b } else x

def mix (a b : ByteArray) (i : Nat) (l : List I) : List I := (l.take i).map (ren a b) ++ l.drop i
theorem mix_zero {a b : ByteArray} {l : List I} : mix a b 0 l = l := by simp [mix]
theorem mix_all {a b : ByteArray} {i : Nat} {l : List I} (h : l.length ≤ i) : mix a b i l = l.map (ren a b) := by simp [mix, List.take_of_length_le h, List.drop_eq_nil_of_le h]
theorem mix_lt {a b : ByteArray} {i : Nat} {l : List I} (h : i < l.length) : mix a b i l = (l.take i).map (ren a b) ++ l[i] :: l.drop (i + 1) := by
  rw [mix, List.drop_eq_getElem_cons h]
theorem mix_succ {a b : ByteArray} {i : Nat} {l : List I} (h : i < l.length) : mix a b (i + 1) l = (l.take i).map (ren a b) ++ ren a b l[i] :: l.drop (i + 1) := by
  rw [mix, List.take_succ_eq_append_getElem h, List.map_append, List.append_assoc]; rfl
@[go_sem] theorem mix_len {a b : ByteArray} {i : Nat} {l : List I} : (mix a b i l).length = l.length := by simp [mix]; omega
attribute [go_sem] Nat.zero_add Nat.le_refl List.replicate_succ List.replicate_zero
@[go_sem high] theorem mix_get {a b : ByteArray} {i : Nat} {l : List I} (h : i < l.length) : ((mix a b i l).map ic)[i]? = some (ic l[i]) := by
  have : i - (List.map ic ((l.take i).map (ren a b))).length = 0 := by simp; omega
  rw [mix_lt h, List.map_append, List.getElem?_append_right (by simp; omega), this]; rfl
theorem mix_set {a b : ByteArray} {i : Nat} {l : List I} (h : i < l.length) : ((mix a b i l).map ic).set i (ic (ren a b l[i])) = (mix a b (i + 1) l).map ic := by
  rw [mix_lt h, mix_succ h, List.map_append, List.map_append, List.set_append_right _ _ (by simp; omega)]
  congr 1
  have : i - (List.map ic ((l.take i).map (ren a b))).length = 0 := by simp; omega
  rw [this]; rfl
theorem mix_same {a b : ByteArray} {i : Nat} {l : List I} (h : i < l.length) (h2 : ren a b l[i] = l[i]) : mix a b i l = mix a b (i + 1) l := by
  rw [mix_lt h, mix_succ h, h2]

theorem c79 (nm : ByteArray) (wk : Bool) (l : List I) (hl : small l) (E) : AC Try.prog 80 [.agg [.lit (.string nm), .lit (.bool wk), .sl false 3 (l.map ic)]] E
    (fun sv _ => sv = .agg [.lit (.string nm), .lit (.bool wk), .sl true 3 (l.map ic)]) := by
  have hl1 := hl.1
  have hA : l.length * 32 ≤ 140737488355328 := by omega
  have hB : l.length ≤ 9223372036854775807 := by omega
  refine AC_of_swp (n := 8) (rs := [.cell 2 28]) hf80 rfl rfl rfl rfl rfl ?_
  repeat' (first
    | refine swp_seq ?_ | refine swp_region ?_ | refine swp_block ?_ | refine swp_skip ?_ | refine swp_ret ?_ | refine swp_exit ?_
    | (refine swp_cond (by simp -implicitDefEqProofs only [go_sem, Nat.reduceLT, Nat.reduceEqDiff, Nat.reduceAdd, Nat.reduceLeDiff, Nat.reduceMul, Nat.reduceSub, Int.reduceEq, reduceCtorEq, reduceIte, *] <;> rfl) (fun h => ?_) (fun h => ?_) <;> try simp only [Int.ofNat_lt, Int.ofNat_le, gdV, decide_eq_true_eq, decide_eq_false_iff_not, Bool.not_eq_true', Bool.not_eq_false', reduceCtorEq, Bool.true_eq_false, Bool.false_eq_true] at h)
    | simp -implicitDefEqProofs only [go_sem, Nat.reduceLT, Nat.reduceEqDiff, Nat.reduceAdd, Nat.reduceLeDiff, Nat.reduceMul, Nat.reduceSub, Int.reduceEq, reduceCtorEq, reduceIte, *]
    | (refine fork_intro (fun h => ?_) (fun h => ?_) <;> try simp only [Int.ofNat_lt, Int.ofNat_le, gdV, decide_eq_true_eq, decide_eq_false_iff_not, Bool.not_eq_true', Bool.not_eq_false', reduceCtorEq, Bool.true_eq_false, Bool.false_eq_true] at h))
  exact List.nodup_cons.2 ⟨by simp, List.nodup_nil⟩

theorem c44 (nm : ByteArray) (wk : Bool) (l : List I) (a b : ByteArray) (hl : small l) (E) : AC Try.prog 44 [.agg [.lit (.string nm), .lit (.bool wk), .sl false 3 (l.map ic)], .one (.lit (.string a)), .one (.lit (.string b))] E
    (fun sv _ => sv = .agg [.lit (.string nm), .lit (.bool wk), .sl true 3 ((l.map (ren a b)).map ic)]) := by
  refine AC_of_swp (n := 36) (rs := [.cell 6 28]) hf44 rfl rfl rfl rfl rfl ?_
  repeat' (first
    | refine swp_seq ?_ | refine swp_region ?_ | refine swp_block ?_ | refine swp_skip ?_ | refine swp_ret ?_ | refine swp_exit ?_
    | (refine swp_cond (by simp -implicitDefEqProofs only [go_sem, Nat.reduceLT, Nat.reduceEqDiff, Nat.reduceAdd, Nat.reduceLeDiff, Nat.reduceMul, Nat.reduceSub, Int.reduceEq, reduceCtorEq, reduceIte, *] <;> rfl) (fun h => ?_) (fun h => ?_) <;> try simp only [Int.ofNat_lt, Int.ofNat_le, gdV, decide_eq_true_eq, decide_eq_false_iff_not, Bool.not_eq_true', Bool.not_eq_false', reduceCtorEq, Bool.true_eq_false, Bool.false_eq_true] at h)
    | simp -implicitDefEqProofs only [go_sem, Nat.reduceLT, Nat.reduceEqDiff, Nat.reduceAdd, Nat.reduceLeDiff, Nat.reduceMul, Nat.reduceSub, Int.reduceEq, reduceCtorEq, reduceIte, *]
    | (refine call_view (f := .func 80) (by simp -implicitDefEqProofs only [go_sem, Nat.reduceLT, Nat.reduceEqDiff, Nat.reduceAdd, Nat.reduceLeDiff, Nat.reduceMul, Nat.reduceSub, Int.reduceEq, reduceCtorEq, reduceIte] <;> rfl) (by simp -implicitDefEqProofs only [go_sem, Nat.reduceLT, Nat.reduceEqDiff, Nat.reduceAdd, Nat.reduceLeDiff, Nat.reduceMul, Nat.reduceSub, Int.reduceEq, reduceCtorEq, reduceIte] <;> rfl) (by simp -implicitDefEqProofs only [go_sem, Nat.reduceLT, Nat.reduceEqDiff, Nat.reduceAdd, Nat.reduceLeDiff, Nat.reduceMul, Nat.reduceSub, Int.reduceEq, reduceCtorEq, reduceIte]) (by first | trivial | simp) he80 (fun E => c79 _ _ _ hl E) (fun sv E' hQ => ?_); subst hQ; refine ⟨by simp [SV.Fresh, -fresh_sl, -List.map_map, frs], ?_⟩)
    | (refine fork_intro (fun h => ?_) (fun h => ?_) <;> try simp only [Int.ofNat_lt, Int.ofNat_le, gdV, decide_eq_true_eq, decide_eq_false_iff_not, Bool.not_eq_true', Bool.not_eq_false', reduceCtorEq, Bool.true_eq_false, Bool.false_eq_true] at h))
  refine swp_loop (ι := { i : Nat // i ≤ l.length }) (fun i => fr 36 [.none, .one (.lit (.string a)), .one (.lit (.string b)), .none, .none, .none, .one (.addr (.v 6) [] 0 0 0), .one (.addr (.v 7) [] 0 0 0), .none, .none, .none, .none, .none, .one (.bor (.v 7) [(0, 2)] 0 none), .one (.lit (.int .i64 l.length)), .one (.lit (.int .i64 (i.1 : Int)))] [(7, true, [.lit (.string nm), .lit (.bool wk), .sl true 3 ((mix a b i.1 l).map ic)]), (6, true, [.lit (.string ⟨#[]⟩), .lit (.bool false), .nil])])
    (fun i => l.length - i.1) ⟨0, Nat.zero_le _⟩ ?_ ?_
  · rw [mix_zero]; refine le_fr ?_ ?_ ?_ ?_ <;> simp -implicitDefEqProofs only [go_sem, Nat.reduceLT, Nat.reduceEqDiff, Nat.reduceAdd, Nat.reduceLeDiff, Nat.reduceMul, Nat.reduceSub, Int.reduceEq, reduceCtorEq, reduceIte, *] <;> first | rfl | (rw [wrap64 (by omega) (by omega)]; rfl) | (simp; done) | exact ⟨rfl, rfl⟩ | (refine ⟨rfl, ?_⟩; rw [wrap64 (by omega) (by omega)]; rfl)
  rintro ⟨i, hi⟩
  have h1 := hl.1
  have hset : ∀ h : i < l.length, ((mix a b i l).map ic).set i (ic (ren a b l[i])) = (mix a b (i + 1) l).map ic := mix_set
  repeat' (first
    | refine swp_seq ?_ | refine swp_region ?_ | refine swp_block ?_ | refine swp_skip ?_ | refine swp_ret ?_ | refine swp_exit ?_
    | (refine swp_cond (by simp -implicitDefEqProofs only [go_sem, Nat.reduceLT, Nat.reduceEqDiff, Nat.reduceAdd, Nat.reduceLeDiff, Nat.reduceMul, Nat.reduceSub, Int.reduceEq, reduceCtorEq, reduceIte, *] <;> rfl) (fun h => ?_) (fun h => ?_) <;> try simp only [Int.ofNat_lt, Int.ofNat_le, gdV, decide_eq_true_eq, decide_eq_false_iff_not, Bool.not_eq_true', Bool.not_eq_false', reduceCtorEq, Bool.true_eq_false, Bool.false_eq_true] at h)
    | simp -implicitDefEqProofs only [go_sem, Nat.reduceLT, Nat.reduceEqDiff, Nat.reduceAdd, Nat.reduceLeDiff, Nat.reduceMul, Nat.reduceSub, Int.reduceEq, reduceCtorEq, reduceIte, *]
    | (refine call_view (f := .func 81) (by simp -implicitDefEqProofs only [go_sem, Nat.reduceLT, Nat.reduceEqDiff, Nat.reduceAdd, Nat.reduceLeDiff, Nat.reduceMul, Nat.reduceSub, Int.reduceEq, reduceCtorEq, reduceIte] <;> rfl) (by simp -implicitDefEqProofs only [go_sem, Nat.reduceLT, Nat.reduceEqDiff, Nat.reduceAdd, Nat.reduceLeDiff, Nat.reduceMul, Nat.reduceSub, Int.reduceEq, reduceCtorEq, reduceIte] <;> rfl) (by simp -implicitDefEqProofs only [go_sem, Nat.reduceLT, Nat.reduceEqDiff, Nat.reduceAdd, Nat.reduceLeDiff, Nat.reduceMul, Nat.reduceSub, Int.reduceEq, reduceCtorEq, reduceIte]) (by first | trivial | simp) he81 (fun E => c80 _ _ _ E) (fun sv E' hQ => ?_); subst hQ)
    | (refine fork_intro (fun h => ?_) (fun h => ?_) <;> try simp only [Int.ofNat_lt, Int.ofNat_le, gdV, decide_eq_true_eq, decide_eq_false_iff_not, Bool.not_eq_true', Bool.not_eq_false', reduceCtorEq, Bool.true_eq_false, Bool.false_eq_true] at h))
  · rename_i h2 h3
    have e : ren a b l[i] = { l[i] with s := b } := by simp [ren, *]
    have hs2 := hset h2
    rw [e, ic_eq] at hs2
    refine ⟨⟨i + 1, h2⟩, by show l.length - (i + 1) < l.length - i; omega, ?_⟩
    refine le_fr ?_ ?_ ?_ ?_ <;> simp -implicitDefEqProofs only [go_sem, Nat.reduceLT, Nat.reduceEqDiff, Nat.reduceAdd, Nat.reduceLeDiff, Nat.reduceMul, Nat.reduceSub, Int.reduceEq, reduceCtorEq, reduceIte, *] <;> first | rfl | (rw [wrap64 (by omega) (by omega)]; rfl) | (simp; done) | exact ⟨rfl, rfl⟩ | (refine ⟨rfl, ?_⟩; rw [wrap64 (by omega) (by omega)]; rfl)
  · rename_i h2 h3
    have e : mix a b i l = mix a b (i + 1) l := mix_same h2 (by simp [ren, *])
    refine ⟨⟨i + 1, h2⟩, by show l.length - (i + 1) < l.length - i; omega, ?_⟩
    rw [e]
    refine le_fr ?_ ?_ ?_ ?_ <;> simp -implicitDefEqProofs only [go_sem, Nat.reduceLT, Nat.reduceEqDiff, Nat.reduceAdd, Nat.reduceLeDiff, Nat.reduceMul, Nat.reduceSub, Int.reduceEq, reduceCtorEq, reduceIte, *] <;> first | rfl | (rw [wrap64 (by omega) (by omega)]; rfl) | (simp; done) | exact ⟨rfl, rfl⟩ | (refine ⟨rfl, ?_⟩; rw [wrap64 (by omega) (by omega)]; rfl)
  · rename_i h2 h3
    have e : mix a b i l = mix a b (i + 1) l := mix_same h2 (by simp [ren, *])
    refine ⟨⟨i + 1, h2⟩, by show l.length - (i + 1) < l.length - i; omega, ?_⟩
    rw [e]
    refine le_fr ?_ ?_ ?_ ?_ <;> simp -implicitDefEqProofs only [go_sem, Nat.reduceLT, Nat.reduceEqDiff, Nat.reduceAdd, Nat.reduceLeDiff, Nat.reduceMul, Nat.reduceSub, Int.reduceEq, reduceCtorEq, reduceIte, *] <;> first | rfl | (rw [wrap64 (by omega) (by omega)]; rfl) | (simp; done) | exact ⟨rfl, rfl⟩ | (refine ⟨rfl, ?_⟩; rw [wrap64 (by omega) (by omega)]; rfl)
  · refine ⟨by simp, ?_⟩
    rw [mix_all (by omega)]

def folded (nm : ByteArray) (wk : Bool) (l : List I) (a b : ByteArray) : SV :=
  if (funOk nm l && nameOk b) = true then .agg [.lit (.string nm), .lit (.bool wk), .sl true 3 ((l.map (ren a b)).map ic)] else zfun

theorem c10 (nm : ByteArray) (wk : Bool) (l : List I) (a b : ByteArray) (hn : nm.size ≤ 1048576) (hb : b.size ≤ 1048576) (hl : small l) (E) : AC Try.prog 13 [.agg [.lit (.string nm), .lit (.bool wk), .sl false 3 (l.map ic)], .one (.lit (.string a)), .one (.lit (.string b))] E
    (fun sv _ => sv = folded nm wk l a b) := by
  have hb' : b.size ≤ 4611686018427387904 := by omega
  refine AC_of_swp (n := 20) (rs := [.cell 6 28]) hf13 rfl rfl rfl rfl rfl ?_
  repeat' (first
    | refine swp_seq ?_ | refine swp_region ?_ | refine swp_block ?_ | refine swp_skip ?_ | refine swp_ret ?_ | refine swp_exit ?_
    | (refine swp_cond (by simp -implicitDefEqProofs only [go_sem, Nat.reduceLT, Nat.reduceEqDiff, Nat.reduceAdd, Nat.reduceLeDiff, Nat.reduceMul, Nat.reduceSub, Int.reduceEq, reduceCtorEq, reduceIte, *] <;> rfl) (fun h => ?_) (fun h => ?_) <;> try simp only [Int.ofNat_lt, Int.ofNat_le, gdV, decide_eq_true_eq, decide_eq_false_iff_not, Bool.not_eq_true', Bool.not_eq_false', reduceCtorEq, Bool.true_eq_false, Bool.false_eq_true] at h)
    | simp -implicitDefEqProofs only [go_sem, Nat.reduceLT, Nat.reduceEqDiff, Nat.reduceAdd, Nat.reduceLeDiff, Nat.reduceMul, Nat.reduceSub, Int.reduceEq, reduceCtorEq, reduceIte, *]
    | (refine call_view (f := .func 42) (by simp -implicitDefEqProofs only [go_sem, Nat.reduceLT, Nat.reduceEqDiff, Nat.reduceAdd, Nat.reduceLeDiff, Nat.reduceMul, Nat.reduceSub, Int.reduceEq, reduceCtorEq, reduceIte] <;> rfl) (by simp -implicitDefEqProofs only [go_sem, Nat.reduceLT, Nat.reduceEqDiff, Nat.reduceAdd, Nat.reduceLeDiff, Nat.reduceMul, Nat.reduceSub, Int.reduceEq, reduceCtorEq, reduceIte] <;> rfl) (by simp -implicitDefEqProofs only [go_sem, Nat.reduceLT, Nat.reduceEqDiff, Nat.reduceAdd, Nat.reduceLeDiff, Nat.reduceMul, Nat.reduceSub, Int.reduceEq, reduceCtorEq, reduceIte]) (by first | trivial | simp) he42 (fun E => c15 _ _ _ hn hl E) (fun sv E' hQ => ?_); subst hQ)
    | (refine call_view (f := .func 43) (by simp -implicitDefEqProofs only [go_sem, Nat.reduceLT, Nat.reduceEqDiff, Nat.reduceAdd, Nat.reduceLeDiff, Nat.reduceMul, Nat.reduceSub, Int.reduceEq, reduceCtorEq, reduceIte] <;> rfl) (by simp -implicitDefEqProofs only [go_sem, Nat.reduceLT, Nat.reduceEqDiff, Nat.reduceAdd, Nat.reduceLeDiff, Nat.reduceMul, Nat.reduceSub, Int.reduceEq, reduceCtorEq, reduceIte] <;> rfl) (by simp -implicitDefEqProofs only [go_sem, Nat.reduceLT, Nat.reduceEqDiff, Nat.reduceAdd, Nat.reduceLeDiff, Nat.reduceMul, Nat.reduceSub, Int.reduceEq, reduceCtorEq, reduceIte]) (by first | trivial | simp) he43 (fun E => c43 _ hb' E) (fun sv E' hQ => ?_); subst hQ)
    | (refine call_view (f := .func 44) (by simp -implicitDefEqProofs only [go_sem, Nat.reduceLT, Nat.reduceEqDiff, Nat.reduceAdd, Nat.reduceLeDiff, Nat.reduceMul, Nat.reduceSub, Int.reduceEq, reduceCtorEq, reduceIte] <;> rfl) (by simp -implicitDefEqProofs only [go_sem, Nat.reduceLT, Nat.reduceEqDiff, Nat.reduceAdd, Nat.reduceLeDiff, Nat.reduceMul, Nat.reduceSub, Int.reduceEq, reduceCtorEq, reduceIte] <;> rfl) (by simp -implicitDefEqProofs only [go_sem, Nat.reduceLT, Nat.reduceEqDiff, Nat.reduceAdd, Nat.reduceLeDiff, Nat.reduceMul, Nat.reduceSub, Int.reduceEq, reduceCtorEq, reduceIte]) (by first | trivial | simp) he44 (fun E => c44 _ _ _ _ _ hl E) (fun sv E' hQ => ?_); subst hQ; refine ⟨by simp [SV.Fresh, -fresh_sl, -List.map_map, frs], ?_⟩)
    | (refine fork_intro (fun h => ?_) (fun h => ?_) <;> try simp only [Int.ofNat_lt, Int.ofNat_le, gdV, decide_eq_true_eq, decide_eq_false_iff_not, Bool.not_eq_true', Bool.not_eq_false', reduceCtorEq, Bool.true_eq_false, Bool.false_eq_true] at h))
  all_goals (refine ⟨by simp, ?_⟩; simp [folded, zfun, *]; done)

def rt (a b : ByteArray) (i : Nat) (l : List I) : List I := (l.take i).map (ren a b)
@[go_sem] theorem rt_len {a b : ByteArray} {i : Nat} {l : List I} (h : i ≤ l.length) : (rt a b i l).length = i := by simp [rt, h]
theorem rt_zero {a b : ByteArray} {l : List I} : rt a b 0 l = [] := by simp [rt]
theorem rt_all {a b : ByteArray} {i : Nat} {l : List I} (h : l.length ≤ i) : rt a b i l = l.map (ren a b) := by simp [rt, List.take_of_length_le h]
theorem rt_succ {a b : ByteArray} {i : Nat} {l : List I} (h : i < l.length) : (rt a b (i + 1) l).map ic = (rt a b i l).map ic ++ [ic (ren a b l[i])] := by
  rw [rt, List.take_succ_eq_append_getElem h, List.map_append, List.map_append]; rfl
def rslice (a b : ByteArray) (i : Nat) (l : List I) : D := if i = 0 then .nil else .sl true 3 ((rt a b i l).map ic)

theorem c46 (nm : ByteArray) (wk : Bool) (l : List I) (a b : ByteArray) (hl : small l) (hl0 : 0 < l.length) (E) : AC Try.prog 85 [.agg [.lit (.string nm), .lit (.bool wk), .sl false 3 (l.map ic)], .one (.lit (.string a)), .one (.lit (.string b))] E
    (fun sv _ => sv = .agg [.lit (.string nm), .lit (.bool wk), .sl true 3 ((l.map (ren a b)).map ic)]) := by
  refine AC_of_swp (n := 44) (rs := [.cell 6 28]) hf85 rfl rfl rfl rfl rfl ?_
  repeat' (first
    | refine swp_seq ?_ | refine swp_region ?_ | refine swp_block ?_ | refine swp_skip ?_ | refine swp_ret ?_ | refine swp_exit ?_
    | (refine swp_cond (by simp -implicitDefEqProofs only [go_sem, Nat.reduceLT, Nat.reduceEqDiff, Nat.reduceAdd, Nat.reduceLeDiff, Nat.reduceMul, Nat.reduceSub, Int.reduceEq, reduceCtorEq, reduceIte, *] <;> rfl) (fun h => ?_) (fun h => ?_) <;> try simp only [Int.ofNat_lt, Int.ofNat_le, gdV, decide_eq_true_eq, decide_eq_false_iff_not, Bool.not_eq_true', Bool.not_eq_false', reduceCtorEq, Bool.true_eq_false, Bool.false_eq_true] at h)
    | simp -implicitDefEqProofs only [go_sem, Nat.reduceLT, Nat.reduceEqDiff, Nat.reduceAdd, Nat.reduceLeDiff, Nat.reduceMul, Nat.reduceSub, Int.reduceEq, reduceCtorEq, reduceIte, *]
    | (refine fork_intro (fun h => ?_) (fun h => ?_) <;> try simp only [Int.ofNat_lt, Int.ofNat_le, gdV, decide_eq_true_eq, decide_eq_false_iff_not, Bool.not_eq_true', Bool.not_eq_false', reduceCtorEq, Bool.true_eq_false, Bool.false_eq_true] at h))
  refine swp_loop (ι := { i : Nat // i ≤ l.length }) (fun i => fr 44 [.none, .one (.lit (.string a)), .one (.lit (.string b)), .one (.addr (.v 3) [] 0 0 0), .none, .none, .one (.addr (.v 6) [] 0 0 0), .one (.addr (.v 7) [] 0 0 0), .one (.lit (.int .i64 (i.1 : Int)))] [(3, true, [.lit (.string nm), .lit (.bool wk), .sl false 3 (l.map ic)]), (7, true, [.lit (.string nm), .lit (.bool wk), rslice a b i.1 l]), (6, true, [.lit (.string ⟨#[]⟩), .lit (.bool false), .nil])])
    (fun i => l.length - i.1) ⟨0, Nat.zero_le _⟩ ?_ ?_
  · refine le_fr ?_ ?_ ?_ ?_ <;> simp -implicitDefEqProofs only [go_sem, Nat.reduceLT, Nat.reduceEqDiff, Nat.reduceAdd, Nat.reduceLeDiff, Nat.reduceMul, Nat.reduceSub, Int.reduceEq, reduceCtorEq, reduceIte, *] <;> first | rfl | (rw [wrap64 (by omega) (by omega)]; rfl) | (simp; done) | exact ⟨rfl, rfl⟩ | (refine ⟨rfl, ?_⟩; rw [wrap64 (by omega) (by omega)]; rfl)
  rintro ⟨i, hi⟩
  have h1 := hl.1
  have hA : (i + 1) * 32 ≤ 140737488355328 := by omega
  have hB : i + 1 ≤ 9223372036854775807 := by omega
  have hset : ∀ h : i < l.length, (rt a b i l).map ic ++ [ic (ren a b l[i])] = (rt a b (i + 1) l).map ic := fun h => (rt_succ h).symm
  rcases Nat.eq_zero_or_pos i with h0 | h0
  · subst h0
    rw [show rslice a b 0 l = .nil from rfl]
    repeat' (first
      | refine swp_seq ?_ | refine swp_region ?_ | refine swp_block ?_ | refine swp_skip ?_ | refine swp_ret ?_ | refine swp_exit ?_
      | (refine swp_cond (by simp -implicitDefEqProofs only [go_sem, Nat.reduceLT, Nat.reduceEqDiff, Nat.reduceAdd, Nat.reduceLeDiff, Nat.reduceMul, Nat.reduceSub, Int.reduceEq, reduceCtorEq, reduceIte, *] <;> rfl) (fun h => ?_) (fun h => ?_) <;> try simp only [Int.ofNat_lt, Int.ofNat_le, gdV, decide_eq_true_eq, decide_eq_false_iff_not, Bool.not_eq_true', Bool.not_eq_false', reduceCtorEq, Bool.true_eq_false, Bool.false_eq_true] at h)
      | simp -implicitDefEqProofs only [go_sem, Nat.reduceLT, Nat.reduceEqDiff, Nat.reduceAdd, Nat.reduceLeDiff, Nat.reduceMul, Nat.reduceSub, Int.reduceEq, reduceCtorEq, reduceIte, *]
      | (refine call_view (f := .func 74) (by simp -implicitDefEqProofs only [go_sem, Nat.reduceLT, Nat.reduceEqDiff, Nat.reduceAdd, Nat.reduceLeDiff, Nat.reduceMul, Nat.reduceSub, Int.reduceEq, reduceCtorEq, reduceIte] <;> rfl) (by simp -implicitDefEqProofs only [go_sem, Nat.reduceLT, Nat.reduceEqDiff, Nat.reduceAdd, Nat.reduceLeDiff, Nat.reduceMul, Nat.reduceSub, Int.reduceEq, reduceCtorEq, reduceIte] <;> rfl) (by simp -implicitDefEqProofs only [go_sem, Nat.reduceLT, Nat.reduceEqDiff, Nat.reduceAdd, Nat.reduceLeDiff, Nat.reduceMul, Nat.reduceSub, Int.reduceEq, reduceCtorEq, reduceIte]) (by first | trivial | simp) he74 (fun E => c81 _ _ _ E) (fun sv E' hQ => ?_); subst hQ)
      | (refine fork_intro (fun h => ?_) (fun h => ?_) <;> try simp only [Int.ofNat_lt, Int.ofNat_le, gdV, decide_eq_true_eq, decide_eq_false_iff_not, Bool.not_eq_true', Bool.not_eq_false', reduceCtorEq, Bool.true_eq_false, Bool.false_eq_true] at h))
    · have e : ren a b l[0] = { l[0] with s := b } := by simp [ren, *]
      replace hset := hset hl0
      rw [e] at hset
      rw [rt_zero, List.map_nil, List.nil_append, ic_eq] at hset
      refine ⟨⟨1, hl0⟩, by show l.length - 1 < l.length - 0; omega, ?_⟩
      rw [show rslice a b 1 l = .sl true 3 ((rt a b 1 l).map ic) from rfl, ← hset]
      clear hset
      refine le_fr ?_ ?_ ?_ ?_ <;> simp -implicitDefEqProofs only [go_sem, Nat.reduceLT, Nat.reduceEqDiff, Nat.reduceAdd, Nat.reduceLeDiff, Nat.reduceMul, Nat.reduceSub, Int.reduceEq, reduceCtorEq, reduceIte, *, List.map_nil, List.nil_append] <;> first | rfl | (rw [wrap64 (by omega) (by omega)]; rfl)
    · have e : ren a b l[0] = l[0] := by simp [ren, *]
      replace hset := hset hl0
      rw [e] at hset
      rw [rt_zero, List.map_nil, List.nil_append, ic_eq] at hset
      refine ⟨⟨1, hl0⟩, by show l.length - 1 < l.length - 0; omega, ?_⟩
      rw [show rslice a b 1 l = .sl true 3 ((rt a b 1 l).map ic) from rfl, ← hset]
      clear hset
      refine le_fr ?_ ?_ ?_ ?_ <;> simp -implicitDefEqProofs only [go_sem, Nat.reduceLT, Nat.reduceEqDiff, Nat.reduceAdd, Nat.reduceLeDiff, Nat.reduceMul, Nat.reduceSub, Int.reduceEq, reduceCtorEq, reduceIte, *, List.map_nil, List.nil_append] <;> first | rfl | (rw [wrap64 (by omega) (by omega)]; rfl)
    · have e : ren a b l[0] = l[0] := by simp [ren, *]
      replace hset := hset hl0
      rw [e] at hset
      rw [rt_zero, List.map_nil, List.nil_append, ic_eq] at hset
      refine ⟨⟨1, hl0⟩, by show l.length - 1 < l.length - 0; omega, ?_⟩
      rw [show rslice a b 1 l = .sl true 3 ((rt a b 1 l).map ic) from rfl, ← hset]
      clear hset
      refine le_fr ?_ ?_ ?_ ?_ <;> simp -implicitDefEqProofs only [go_sem, Nat.reduceLT, Nat.reduceEqDiff, Nat.reduceAdd, Nat.reduceLeDiff, Nat.reduceMul, Nat.reduceSub, Int.reduceEq, reduceCtorEq, reduceIte, *, List.map_nil, List.nil_append] <;> first | rfl | (rw [wrap64 (by omega) (by omega)]; rfl)
  rw [show rslice a b i l = .sl true 3 ((rt a b i l).map ic) by simp [rslice]; omega]
  repeat' (first
    | refine swp_seq ?_ | refine swp_region ?_ | refine swp_block ?_ | refine swp_skip ?_ | refine swp_ret ?_ | refine swp_exit ?_
    | (refine swp_cond (by simp -implicitDefEqProofs only [go_sem, Nat.reduceLT, Nat.reduceEqDiff, Nat.reduceAdd, Nat.reduceLeDiff, Nat.reduceMul, Nat.reduceSub, Int.reduceEq, reduceCtorEq, reduceIte, *] <;> rfl) (fun h => ?_) (fun h => ?_) <;> try simp only [Int.ofNat_lt, Int.ofNat_le, gdV, decide_eq_true_eq, decide_eq_false_iff_not, Bool.not_eq_true', Bool.not_eq_false', reduceCtorEq, Bool.true_eq_false, Bool.false_eq_true] at h)
    | simp -implicitDefEqProofs only [go_sem, Nat.reduceLT, Nat.reduceEqDiff, Nat.reduceAdd, Nat.reduceLeDiff, Nat.reduceMul, Nat.reduceSub, Int.reduceEq, reduceCtorEq, reduceIte, *]
    | (refine call_view (f := .func 74) (by simp -implicitDefEqProofs only [go_sem, Nat.reduceLT, Nat.reduceEqDiff, Nat.reduceAdd, Nat.reduceLeDiff, Nat.reduceMul, Nat.reduceSub, Int.reduceEq, reduceCtorEq, reduceIte] <;> rfl) (by simp -implicitDefEqProofs only [go_sem, Nat.reduceLT, Nat.reduceEqDiff, Nat.reduceAdd, Nat.reduceLeDiff, Nat.reduceMul, Nat.reduceSub, Int.reduceEq, reduceCtorEq, reduceIte] <;> rfl) (by simp -implicitDefEqProofs only [go_sem, Nat.reduceLT, Nat.reduceEqDiff, Nat.reduceAdd, Nat.reduceLeDiff, Nat.reduceMul, Nat.reduceSub, Int.reduceEq, reduceCtorEq, reduceIte]) (by first | trivial | simp) he74 (fun E => c81 _ _ _ E) (fun sv E' hQ => ?_); subst hQ)
    | (refine fork_intro (fun h => ?_) (fun h => ?_) <;> try simp only [Int.ofNat_lt, Int.ofNat_le, gdV, decide_eq_true_eq, decide_eq_false_iff_not, Bool.not_eq_true', Bool.not_eq_false', reduceCtorEq, Bool.true_eq_false, Bool.false_eq_true] at h))
  · rename_i h2 h3
    have e : ren a b l[i] = { l[i] with s := b } := by simp [ren, *]
    replace hset := hset h2
    rw [e] at hset
    rw [ic_eq] at hset
    refine ⟨⟨i + 1, h2⟩, by show l.length - (i + 1) < l.length - i; omega, ?_⟩
    rw [show rslice a b (i + 1) l = .sl true 3 ((rt a b (i + 1) l).map ic) by simp [rslice], ← hset]
    clear hset
    refine le_fr ?_ ?_ ?_ ?_ <;> simp -implicitDefEqProofs only [go_sem, Nat.reduceLT, Nat.reduceEqDiff, Nat.reduceAdd, Nat.reduceLeDiff, Nat.reduceMul, Nat.reduceSub, Int.reduceEq, reduceCtorEq, reduceIte, *, List.map_nil, List.nil_append] <;> first | rfl | (rw [wrap64 (by omega) (by omega)]; rfl)
  · rename_i h2 h3
    have e : ren a b l[i] = l[i] := by simp [ren, *]
    replace hset := hset h2
    rw [e] at hset
    rw [ic_eq] at hset
    refine ⟨⟨i + 1, h2⟩, by show l.length - (i + 1) < l.length - i; omega, ?_⟩
    rw [show rslice a b (i + 1) l = .sl true 3 ((rt a b (i + 1) l).map ic) by simp [rslice], ← hset]
    clear hset
    refine le_fr ?_ ?_ ?_ ?_ <;> simp -implicitDefEqProofs only [go_sem, Nat.reduceLT, Nat.reduceEqDiff, Nat.reduceAdd, Nat.reduceLeDiff, Nat.reduceMul, Nat.reduceSub, Int.reduceEq, reduceCtorEq, reduceIte, *, List.map_nil, List.nil_append] <;> first | rfl | (rw [wrap64 (by omega) (by omega)]; rfl)
  · rename_i h2 h3
    have e : ren a b l[i] = l[i] := by simp [ren, *]
    replace hset := hset h2
    rw [e] at hset
    rw [ic_eq] at hset
    refine ⟨⟨i + 1, h2⟩, by show l.length - (i + 1) < l.length - i; omega, ?_⟩
    rw [show rslice a b (i + 1) l = .sl true 3 ((rt a b (i + 1) l).map ic) by simp [rslice], ← hset]
    clear hset
    refine le_fr ?_ ?_ ?_ ?_ <;> simp -implicitDefEqProofs only [go_sem, Nat.reduceLT, Nat.reduceEqDiff, Nat.reduceAdd, Nat.reduceLeDiff, Nat.reduceMul, Nat.reduceSub, Int.reduceEq, reduceCtorEq, reduceIte, *, List.map_nil, List.nil_append] <;> first | rfl | (rw [wrap64 (by omega) (by omega)]; rfl)
  · refine ⟨by simp, ?_⟩
    rw [rt_all (by omega)]

theorem funOk_pos {nm : ByteArray} {l : List I} (h : funOk nm l = true) : 0 < l.length := by
  simp only [funOk, Bool.and_eq_true, decide_eq_true_eq] at h
  omega

end Go.Proofs.Ytlphbpjejdhaoaa
