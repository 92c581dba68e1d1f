/- The reader that draws: what it answers. No condition. -/
import Derived.Test.YtlphbpjejdhaoaaC6
import Derived.Test.YtlphbpjejdhaoaaT2
import Derived.Test.YtlphbpjejdhaoaaAi5
open Go Go.AI Go.Proofs
set_option maxRecDepth 100000
set_option maxHeartbeats 4000000
set_option linter.unusedSimpArgs false
set_option linter.unusedVariables false
namespace Go.Proofs.Ytlphbpjejdhaoaa
attribute [local irreducible] awpOps opA callA Then Fork SWP

attribute [go_sem] builtinS
def brow (x : Nat) : List D := [.lit (.int .u8 (x : Int))]
@[go_sem] theorem brow_eq (x : Nat) : brow x = [.lit (.int .u8 (x : Int))] := rfl
@[go_sem] theorem brow_len (u : List (Nat)) : (u.map brow).length = u.length := List.length_map ..
@[go_sem] theorem brow_get {u : List (Nat)} {i : Nat} (h : i < u.length) : (u.map brow)[i]? = some (brow u[i]) := by simp [h]

theorem brow_take {l : List Nat} {n : Nat} : (l.map brow).take n = (l.take n).map brow := by rw [List.map_take]
def okB (b : List Nat) : Prop := b.length ≤ 2000 ∧ ∀ x ∈ b, x < 256
def RD (b : List Nat) (p : Nat) : Option (Bool × List D) := some (true, [.sl false 1 (b.map brow), .lit (.int .i64 (p : Int))])

theorem c39 (b : List Nat) (hb : ∀ x ∈ b, x < 256) (hl : b.length ≤ 140737488355328) : ACV Try.prog 35 [.one (.sl false 1 (b.map brow))] (fun ds => ∃ b', okB b' ∧ ds = [.sl false 1 (b'.map brow), .lit (.int .i64 ((0 : Nat) : Int))]) := by
  rcases Nat.lt_or_ge 2000 b.length with hbig | hsm
  · have h1 : (2000 : Int) < b.length := by omega
    refine ACV_of_swp (n := 11) (r := 2) 10 hf35 rfl rfl rfl rfl rfl ?_
    have e0 : (0 : Int) ≤ 2000 := by decide
    have e1 : Int.toNat 2000 = 2000 := rfl
    have e2 : 2000 ≤ b.length := by omega
    have e3 : ∀ l : List (List D), List.drop 0 l = l := fun l => rfl
    have e4 : (b.map brow).take 2000 = (b.take 2000).map brow := brow_take
    have hok : okB (b.take 2000) := ⟨by simp; omega, fun x hx => hb x (List.mem_of_mem_take hx)⟩
    repeat' (first
      | refine swp_seq ?_ | refine swp_region ?_ | refine swp_block ?_ | refine swp_skip ?_ | refine swp_ret ?_ | refine swp_exit ?_
      | (refine swp_cond (by simp -implicitDefEqProofs only [go_sem, Nat.reduceLT, Nat.reduceEqDiff, Nat.reduceAdd, Nat.reduceLeDiff, Nat.reduceMul, Nat.reduceSub, Int.reduceEq, reduceCtorEq, reduceIte, *] <;> rfl) (fun h => ?_) (fun h => ?_) <;> try simp only [Int.ofNat_lt, Int.ofNat_le, gdV, decide_eq_true_eq, decide_eq_false_iff_not, Bool.not_eq_true', Bool.not_eq_false', reduceCtorEq, Bool.true_eq_false, Bool.false_eq_true] at h)
      | simp -implicitDefEqProofs only [go_sem, Nat.reduceLT, Nat.reduceEqDiff, Nat.reduceAdd, Nat.reduceLeDiff, Nat.reduceMul, Nat.reduceSub, Int.reduceEq, reduceCtorEq, reduceIte, *]
      | (refine fork_intro (fun h => ?_) (fun h => ?_) <;> try simp only [Int.ofNat_lt, Int.ofNat_le, gdV, decide_eq_true_eq, decide_eq_false_iff_not, Bool.not_eq_true', Bool.not_eq_false', reduceCtorEq, Bool.true_eq_false, Bool.false_eq_true] at h))
    exact ⟨by decide, by simp -implicitDefEqProofs only [go_sem, Nat.reduceLT, Nat.reduceEqDiff, Nat.reduceAdd, Nat.reduceLeDiff, Nat.reduceMul, Nat.reduceSub, Int.reduceEq, reduceCtorEq, reduceIte, *], [.sl false 1 ((b.take 2000).map brow), .lit (.int .i64 0)], by simp -implicitDefEqProofs only [go_sem, Nat.reduceLT, Nat.reduceEqDiff, Nat.reduceAdd, Nat.reduceLeDiff, Nat.reduceMul, Nat.reduceSub, Int.reduceEq, reduceCtorEq, reduceIte, *], rfl, _, hok, rfl⟩
  · have h1 : ¬ (2000 : Int) < b.length := by omega
    refine ACV_of_swp (n := 11) (r := 2) 10 hf35 rfl rfl rfl rfl rfl ?_
    have hok : okB b := ⟨hsm, hb⟩
    repeat' (first
      | refine swp_seq ?_ | refine swp_region ?_ | refine swp_block ?_ | refine swp_skip ?_ | refine swp_ret ?_ | refine swp_exit ?_
      | (refine swp_cond (by simp -implicitDefEqProofs only [go_sem, Nat.reduceLT, Nat.reduceEqDiff, Nat.reduceAdd, Nat.reduceLeDiff, Nat.reduceMul, Nat.reduceSub, Int.reduceEq, reduceCtorEq, reduceIte, *] <;> rfl) (fun h => ?_) (fun h => ?_) <;> try simp only [Int.ofNat_lt, Int.ofNat_le, gdV, decide_eq_true_eq, decide_eq_false_iff_not, Bool.not_eq_true', Bool.not_eq_false', reduceCtorEq, Bool.true_eq_false, Bool.false_eq_true] at h)
      | simp -implicitDefEqProofs only [go_sem, Nat.reduceLT, Nat.reduceEqDiff, Nat.reduceAdd, Nat.reduceLeDiff, Nat.reduceMul, Nat.reduceSub, Int.reduceEq, reduceCtorEq, reduceIte, *]
      | (refine fork_intro (fun h => ?_) (fun h => ?_) <;> try simp only [Int.ofNat_lt, Int.ofNat_le, gdV, decide_eq_true_eq, decide_eq_false_iff_not, Bool.not_eq_true', Bool.not_eq_false', reduceCtorEq, Bool.true_eq_false, Bool.false_eq_true] at h))
    exact ⟨by decide, by simp -implicitDefEqProofs only [go_sem, Nat.reduceLT, Nat.reduceEqDiff, Nat.reduceAdd, Nat.reduceLeDiff, Nat.reduceMul, Nat.reduceSub, Int.reduceEq, reduceCtorEq, reduceIte, *], [.sl false 1 (b.map brow), .lit (.int .i64 0)], by simp -implicitDefEqProofs only [go_sem, Nat.reduceLT, Nat.reduceEqDiff, Nat.reduceAdd, Nat.reduceLeDiff, Nat.reduceMul, Nat.reduceSub, Int.reduceEq, reduceCtorEq, reduceIte, *], rfl, _, hok, rfl⟩

theorem tmod_nat {a b : Nat} : ((a : Int)).tmod (b : Int) = ((a % b : Nat) : Int) := by rw [Int.ofNat_tmod]
theorem tdiv_nat {a b : Nat} : ((a : Int)).tdiv (b : Int) = ((a / b : Nat) : Int) := by rw [Int.ofNat_tdiv]
theorem xor_nat {y : Nat} (h : y < 9223372036854775808) : IntKind.i64.wrap (BitVec.ofInt 64 (y : Int) ^^^ BitVec.ofInt 64 ((y / 64 : Nat) : Int)).toNat = ((y ^^^ (y / 64) : Nat) : Int) := by
  have hx : y ^^^ (y / 64) < 9223372036854775808 := Nat.xor_lt_two_pow (n := 63) h (by omega)
  have : (BitVec.ofInt 64 (y : Int) ^^^ BitVec.ofInt 64 ((y / 64 : Nat) : Int)).toNat = y ^^^ (y / 64) := by
    rw [BitVec.toNat_xor, BitVec.ofInt_natCast, BitVec.ofInt_natCast, BitVec.toNat_ofNat, BitVec.toNat_ofNat, Nat.mod_eq_of_lt (by omega), Nat.mod_eq_of_lt (by omega)]
  rw [this, wrap64 (by omega) (by omega)]
def pickQ (b : List Nat) (p : Nat) (n : Int) (sv : SV) (E' : Nat → Option (Bool × List D)) : Prop := ∃ x : Nat, sv = .one (.lit (.int .i64 (x : Int))) ∧ (1 ≤ n → (x : Int) < n) ∧ E' 100000 = RD b (p + 1)
theorem c78 (b : List Nat) (p : Nat) (n : Int) (hb : okB b) (hp : p ≤ 1048576) (E) (hE : E 100000 = RD b p) : AC Try.prog 61 [.one (.addr (.v 100000) [] 0 0 0), .one (.lit (.int .i64 n))] E (pickQ b p n) := by
  obtain ⟨hl, hb⟩ := hb
  unfold RD at hE
  unfold pickQ RD
  have w1 : IntKind.i64.wrap ((p : Int) + 1) = ((p + 1 : Nat) : Int) := by rw [wrap64 (by omega) (by omega)]; omega
  rcases Int.lt_or_le n 1 with hn | hn
  · have hn1 : ¬ 1 ≤ n := by omega
    refine AC_of_swp (n := 99) (rs := [.tmp 4]) hf61 rfl rfl rfl rfl rfl ?_
    repeat' (first
      | refine swp_seq ?_ | refine swp_region ?_ | refine swp_block ?_ | refine swp_skip ?_ | refine swp_ret ?_ | refine swp_exit ?_
      | (refine swp_cond (by simp -implicitDefEqProofs only [go_sem, Nat.reduceLT, Nat.reduceEqDiff, Nat.reduceAdd, Nat.reduceLeDiff, Nat.reduceMul, Nat.reduceSub, Int.reduceEq, reduceCtorEq, reduceIte, *] <;> rfl) (fun h => ?_) (fun h => ?_) <;> try simp only [Int.ofNat_lt, Int.ofNat_le, gdV, decide_eq_true_eq, decide_eq_false_iff_not, Bool.not_eq_true', Bool.not_eq_false', reduceCtorEq, Bool.true_eq_false, Bool.false_eq_true] at h)
      | simp -implicitDefEqProofs only [go_sem, Nat.reduceLT, Nat.reduceEqDiff, Nat.reduceAdd, Nat.reduceLeDiff, Nat.reduceMul, Nat.reduceSub, Int.reduceEq, reduceCtorEq, reduceIte, *]
      | (refine fork_intro (fun h => ?_) (fun h => ?_) <;> try simp only [Int.ofNat_lt, Int.ofNat_le, gdV, decide_eq_true_eq, decide_eq_false_iff_not, Bool.not_eq_true', Bool.not_eq_false', reduceCtorEq, Bool.true_eq_false, Bool.false_eq_true] at h))
    all_goals exact ⟨by simp, 0, rfl, fun h => by first | exact h.elim | omega⟩
  obtain ⟨n, rfl⟩ : ∃ m : Nat, n = m := ⟨n.toNat, by omega⟩
  have hn1 : ¬ (n : Int) < 1 := by omega
  have hnz : ¬ (n : Int) = 0 := by omega
  have hnn : ¬ n = 0 := by omega
  have htm : ∀ z : Nat, ((z : Int)).tmod (n : Int) = ((z % n : Nat) : Int) := fun z => tmod_nat
  have hlt : ∀ z : Nat, z % n < n := fun z => Nat.mod_lt _ (by omega)
  have w2 : IntKind.i64.wrap (((p + 1 : Nat) : Int) - 1) = (p : Int) := by rw [wrap64 (by omega) (by omega)]; omega
  by_cases hb0 : b = []
  · have e0 : (b.length : Int) = 0 := by rw [hb0]; rfl
    clear hb0 hl
    refine AC_of_swp (n := 99) (rs := [.tmp 4]) hf61 rfl rfl rfl rfl rfl ?_
    repeat' (first
      | refine swp_seq ?_ | refine swp_region ?_ | refine swp_block ?_ | refine swp_skip ?_ | refine swp_ret ?_ | refine swp_exit ?_
      | (refine swp_cond (by simp -implicitDefEqProofs only [go_sem, Nat.reduceLT, Nat.reduceEqDiff, Nat.reduceAdd, Nat.reduceLeDiff, Nat.reduceMul, Nat.reduceSub, Int.reduceEq, reduceCtorEq, reduceIte, *] <;> rfl) (fun h => ?_) (fun h => ?_) <;> try simp only [Int.ofNat_lt, Int.ofNat_le, gdV, decide_eq_true_eq, decide_eq_false_iff_not, Bool.not_eq_true', Bool.not_eq_false', reduceCtorEq, Bool.true_eq_false, Bool.false_eq_true] at h)
      | simp -implicitDefEqProofs only [go_sem, Nat.reduceLT, Nat.reduceEqDiff, Nat.reduceAdd, Nat.reduceLeDiff, Nat.reduceMul, Nat.reduceSub, Int.reduceEq, reduceCtorEq, reduceIte, *]
      | (refine fork_intro (fun h => ?_) (fun h => ?_) <;> try simp only [Int.ofNat_lt, Int.ofNat_le, gdV, decide_eq_true_eq, decide_eq_false_iff_not, Bool.not_eq_true', Bool.not_eq_false', reduceCtorEq, Bool.true_eq_false, Bool.false_eq_true] at h))
    all_goals exact ⟨by simp, 0, rfl, fun h => by omega⟩
  have hpos : 0 < b.length := List.length_pos_iff.2 hb0
  have hz : ¬ b.length = 0 := by omega
  have hz2 : ¬ (b.length : Int) = 0 := by omega
  rcases Nat.lt_or_ge p b.length with hpl | hpl
  · have hx := hb _ (List.getElem_mem hpl)
    have wx : IntKind.i64.wrap (b[p] : Int) = (b[p] : Int) := wrap64 (by omega) (by omega)
    have hpi : (p : Int) < b.length := by omega
    refine AC_of_swp (n := 99) (rs := [.tmp 4]) hf61 rfl rfl rfl rfl rfl ?_
    repeat' (first
      | refine swp_seq ?_ | refine swp_region ?_ | refine swp_block ?_ | refine swp_skip ?_ | refine swp_ret ?_ | refine swp_exit ?_
      | (refine swp_cond (by simp -implicitDefEqProofs only [go_sem, Nat.reduceLT, Nat.reduceEqDiff, Nat.reduceAdd, Nat.reduceLeDiff, Nat.reduceMul, Nat.reduceSub, Int.reduceEq, reduceCtorEq, reduceIte, *] <;> rfl) (fun h => ?_) (fun h => ?_) <;> try simp only [Int.ofNat_lt, Int.ofNat_le, gdV, decide_eq_true_eq, decide_eq_false_iff_not, Bool.not_eq_true', Bool.not_eq_false', reduceCtorEq, Bool.true_eq_false, Bool.false_eq_true] at h)
      | simp -implicitDefEqProofs only [go_sem, Nat.reduceLT, Nat.reduceEqDiff, Nat.reduceAdd, Nat.reduceLeDiff, Nat.reduceMul, Nat.reduceSub, Int.reduceEq, reduceCtorEq, reduceIte, *]
      | (refine fork_intro (fun h => ?_) (fun h => ?_) <;> try simp only [Int.ofNat_lt, Int.ofNat_le, gdV, decide_eq_true_eq, decide_eq_false_iff_not, Bool.not_eq_true', Bool.not_eq_false', reduceCtorEq, Bool.true_eq_false, Bool.false_eq_true] at h))
    all_goals exact ⟨by simp, _, rfl, fun h => by have := hlt b[p]; omega⟩
  have hpn : ¬ p < b.length := by omega
  have hpi : ¬ (p : Int) < b.length := by omega
  have hm1 : p % b.length < b.length := Nat.mod_lt _ hpos
  have hm2 : (p * 7 + 3) % b.length < b.length := Nat.mod_lt _ hpos
  have htb : ∀ z : Nat, ((z : Int)).tmod (b.length : Int) = ((z % b.length : Nat) : Int) := fun z => tmod_nat
  have hdb : ((p : Int)).tdiv (b.length : Int) = ((p / b.length : Nat) : Int) := tdiv_nat
  have hdl : p / b.length ≤ p := Nat.div_le_self _ _
  generalize p / b.length = q at hdb hdl
  have hx1 := hb _ (List.getElem_mem hm1)
  have hx2 := hb _ (List.getElem_mem hm2)
  have a1 : IntKind.i64.wrap ((p : Int) * 7) = ((p * 7 : Nat) : Int) := by rw [wrap64 (by omega) (by omega)]; omega
  have a2 : IntKind.i64.wrap (((p * 7 : Nat) : Int) + 3) = ((p * 7 + 3 : Nat) : Int) := by rw [wrap64 (by omega) (by omega)]; omega
  have a3 : IntKind.i64.wrap ((p : Int) * 29) = ((p * 29 : Nat) : Int) := by rw [wrap64 (by omega) (by omega)]; omega
  have a4 : IntKind.i64.wrap (q : Int) = (q : Int) := wrap64 (by omega) (by omega)
  obtain ⟨x1, hx1e⟩ : ∃ x1, b[p % b.length] = x1 := ⟨_, rfl⟩
  obtain ⟨x2, hx2e⟩ : ∃ x2, b[(p * 7 + 3) % b.length] = x2 := ⟨_, rfl⟩
  rw [hx1e] at hx1; rw [hx2e] at hx2
  have b1 : IntKind.i64.wrap (x1 : Int) = (x1 : Int) := wrap64 (by omega) (by omega)
  have b2 : IntKind.i64.wrap (x2 : Int) = (x2 : Int) := wrap64 (by omega) (by omega)
  have b3 : IntKind.i64.wrap ((x1 : Int) * 131) = ((x1 * 131 : Nat) : Int) := by rw [wrap64 (by omega) (by omega)]; omega
  have b4 : IntKind.i64.wrap ((x2 : Int) * 1117) = ((x2 * 1117 : Nat) : Int) := by rw [wrap64 (by omega) (by omega)]; omega
  have b5 : IntKind.i64.wrap (((x1 * 131 : Nat) : Int) + ((x2 * 1117 : Nat) : Int)) = ((x1 * 131 + x2 * 1117 : Nat) : Int) := by rw [wrap64 (by omega) (by omega)]; omega
  have b6 : IntKind.i64.wrap (((x1 * 131 + x2 * 1117 : Nat) : Int) + ((p * 29 : Nat) : Int)) = ((x1 * 131 + x2 * 1117 + p * 29 : Nat) : Int) := by rw [wrap64 (by omega) (by omega)]; omega
  have b7 : IntKind.i64.wrap (((q : Nat) : Int) * 53) = ((q * 53 : Nat) : Int) := by rw [wrap64 (by omega) (by omega)]; omega
  have b8 : IntKind.i64.wrap (((x1 * 131 + x2 * 1117 + p * 29 : Nat) : Int) + ((q * 53 : Nat) : Int)) = ((x1 * 131 + x2 * 1117 + p * 29 + q * 53 : Nat) : Int) := by rw [wrap64 (by omega) (by omega)]; omega
  have hY : x1 * 131 + x2 * 1117 + p * 29 + q * 53 < 9223372036854775808 := by omega
  generalize x1 * 131 + x2 * 1117 + p * 29 + q * 53 = Y at b8 hY
  have c1 : ((Y : Int)).tdiv 64 = ((Y / 64 : Nat) : Int) := tdiv_nat
  have c2 : IntKind.i64.wrap ((Y / 64 : Nat) : Int) = ((Y / 64 : Nat) : Int) := wrap64 (by omega) (by omega)
  have c3 := xor_nat hY
  refine AC_of_swp (n := 99) (rs := [.tmp 4]) hf61 rfl rfl rfl rfl rfl ?_
  repeat' (first
    | refine swp_seq ?_ | refine swp_region ?_ | refine swp_block ?_ | refine swp_skip ?_ | refine swp_ret ?_ | refine swp_exit ?_
    | (refine swp_cond (by simp -implicitDefEqProofs only [go_sem, Nat.reduceLT, Nat.reduceEqDiff, Nat.reduceAdd, Nat.reduceLeDiff, Nat.reduceMul, Nat.reduceSub, Int.reduceEq, reduceCtorEq, reduceIte, *] <;> rfl) (fun h => ?_) (fun h => ?_) <;> try simp only [Int.ofNat_lt, Int.ofNat_le, gdV, decide_eq_true_eq, decide_eq_false_iff_not, Bool.not_eq_true', Bool.not_eq_false', reduceCtorEq, Bool.true_eq_false, Bool.false_eq_true] at h)
    | simp -implicitDefEqProofs only [go_sem, Nat.reduceLT, Nat.reduceEqDiff, Nat.reduceAdd, Nat.reduceLeDiff, Nat.reduceMul, Nat.reduceSub, Int.reduceEq, reduceCtorEq, reduceIte, *]
    | (refine swp_draw (id := 7) [.s 6] mixed ?_; show DW _ _ _ _ 46 (Array.replicate 46 false) _ _; refine dw_takes [0, 1, 2, 3, 4, 5, 6, 7, 8, 9, 10, 11, 12, 13, 14, 15, 16, 17, 18, 19, 20, 21, 22, 23, 24, 25, 26, 27, 28, 29, 30, 31, 32, 33, 34, 35, 36, 37, 38, 39, 40, 41, 42, 43, 44] (fuel := 1) rfl (by kernel_rfl) ?_; simp -implicitDefEqProofs only [go_sem, Nat.reduceLT, Nat.reduceEqDiff, Nat.reduceAdd, Nat.reduceLeDiff, Nat.reduceMul, Nat.reduceSub, Int.reduceEq, reduceCtorEq, reduceIte, *]; refine dw_nextA 45 (by kernel_rfl) ?_; simp -implicitDefEqProofs only [go_sem, Nat.reduceLT, Nat.reduceEqDiff, Nat.reduceAdd, Nat.reduceLeDiff, Nat.reduceMul, Nat.reduceSub, Int.reduceEq, reduceCtorEq, reduceIte, *]; refine ⟨by simp, ?_⟩; refine dw_done (by kernel_rfl) ?_)
    | (refine fork_intro (fun h => ?_) (fun h => ?_) <;> try simp only [Int.ofNat_lt, Int.ofNat_le, gdV, decide_eq_true_eq, decide_eq_false_iff_not, Bool.not_eq_true', Bool.not_eq_false', reduceCtorEq, Bool.true_eq_false, Bool.false_eq_true] at h))
  all_goals exact ⟨by simp, _, (congrArg (fun z : Int => z.tmod (n : Int)) c3).trans (htm _), fun h => by have := hlt (Y ^^^ (Y / 64)); omega⟩
end Go.Proofs.Ytlphbpjejdhaoaa
