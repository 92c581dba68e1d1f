/- What is drawn: units that are closed, a program that is walked. No condition. -/
import Derived.Test.YtlphbpjejdhaoaaM3
open Go Go.AI Go.Proofs
set_option maxRecDepth 100000
set_option maxHeartbeats 4000000
set_option linter.unusedSimpArgs false
set_option linter.unusedVariables false
namespace Go.Proofs.Ytlphbpjejdhaoaa
attribute [local irreducible] awpOps opA callA Then Fork SWP

theorem smG_ret {nm : ByteArray} (h : nm.size ≤ 16) : smG ⟨nm, false, [⟨6, 0, ⟨#[]⟩⟩]⟩ := ⟨h, ⟨by simp, by simp⟩, fun x hx => by simp only [List.mem_singleton] at hx; subst hx; exact em16⟩
def InvC (p : Nat) (y : Nat × List (List F) × Nat) : Prop := y.1 ≤ 7 ∧ Un (3 + y.1) y.2.1 ∧ p ≤ y.2.2 ∧ y.2.2 ≤ p + 40 * y.1
theorem c2092 (b : List Nat) (p : Nat) (us : List (List F)) (nm : ByteArray) (hb : okB b) (hp : p ≤ 1030000) (hU : Un 3 us) (hn16 : nm.size ≤ 16) (hn0 : ¬ nm = ⟨#[]⟩) (E) (hE : E 100000 = RD b p) : AC Try.prog 92 [.one (.addr (.v 100000) [] 0 0 0), .one (.sl false 1 (us.map uc)), .one (.lit (.string nm))] E (unitsQ b p 10 280) := by
  unfold unitsQ
  unfold RD at hE
  have hul := hU.1
  have hA : us.length * 24 ≤ 140737488355328 := by omega
  have hB : us.length ≤ 9223372036854775807 := by omega
  refine AC_of_swp (n := 44) (rs := [.tmp 6]) hf92 rfl rfl rfl rfl rfl ?_
  repeat' (first
    | refine swp_seq ?_ | refine swp_region ?_ | refine swp_block ?_ | refine swp_skip ?_ | refine swp_ret ?_ | refine swp_exit ?_
    | (refine swp_cond (by simp -implicitDefEqProofs only [go_sem, Nat.reduceLT, Nat.reduceEqDiff, Nat.reduceAdd, Nat.reduceLeDiff, Nat.reduceMul, Nat.reduceSub, Int.reduceEq, reduceCtorEq, reduceIte, *] <;> rfl) (fun h => ?_) (fun h => ?_) <;> try simp only [Int.ofNat_lt, Int.ofNat_le, gdV, decide_eq_true_eq, decide_eq_false_iff_not, Bool.not_eq_true', Bool.not_eq_false', reduceCtorEq, Bool.true_eq_false, Bool.false_eq_true] at h)
    | simp -implicitDefEqProofs only [go_sem, Nat.reduceLT, Nat.reduceEqDiff, Nat.reduceAdd, Nat.reduceLeDiff, Nat.reduceMul, Nat.reduceSub, Int.reduceEq, reduceCtorEq, reduceIte, *]
    | (refine fork_intro (fun h => ?_) (fun h => ?_) <;> try simp only [Int.ofNat_lt, Int.ofNat_le, gdV, decide_eq_true_eq, decide_eq_false_iff_not, Bool.not_eq_true', Bool.not_eq_false', reduceCtorEq, Bool.true_eq_false, Bool.false_eq_true] at h))
  refine swp_loop (ι := { y : Nat × List (List F) × Nat // InvC p y }) (fun y => (fr 44 [.one (.addr (.v 100000) [] 0 0 0), .none, .one (.lit (.string nm)), .none, .none, .none, .none, .one (.sl true 1 ((y.1.2.1).map uc)), .one (.lit (.int .i64 ((y.1.1 : Int) : Int)))] [(100000, true, [.sl false 1 (b.map brow), .lit (.int .i64 ((y.1.2.2 : Nat) : Int))])])) (fun y => 7 - y.1.1) ⟨(0, us, p), Nat.zero_le _, hU, Nat.le_refl _, Nat.le_refl _⟩ ?_ ?_
  · refine le_fr ?_ ?_ ?_ ?_ <;> simp -implicitDefEqProofs only [go_sem, Nat.reduceLT, Nat.reduceEqDiff, Nat.reduceAdd, Nat.reduceLeDiff, Nat.reduceMul, Nat.reduceSub, Int.reduceEq, reduceCtorEq, reduceIte, *] <;> first | rfl | (rw [wrap64 (by omega) (by omega)]; rfl) | (simp; done) | exact ⟨rfl, rfl⟩ | (refine ⟨rfl, ?_⟩; rw [wrap64 (by omega) (by omega)]; rfl)
  clear hE hA hB hul hU us
  rintro ⟨⟨n, us, p1⟩, hn7, hU, hp1, hp2⟩
  simp only at hn7 hU hp1 hp2 ⊢
  have hul := hU.1
  have hU10 := un_mono hU (m := 10) (by omega)
  have hA : (us.length + 1) * 24 ≤ 140737488355328 := by omega
  have hB : us.length + 1 ≤ 9223372036854775807 := by omega
  have hw : IntKind.i64.wrap ((n : Int) + 1) = ((n + 1 : Nat) : Int) := by rw [wrap64 (by omega) (by omega)]; omega
  rcases Nat.lt_or_ge n 7 with hlt | hge
  · have hn : (n : Int) < 7 := by omega
    have e0 : (0 : Int) ≤ 0 := Int.le_refl _
    have e1 : Int.toNat 0 = 0 := rfl
    repeat' (first
      | refine swp_seq ?_ | refine swp_region ?_ | refine swp_block ?_ | refine swp_skip ?_ | refine swp_ret ?_ | refine swp_exit ?_
      | (refine swp_cond (by simp -implicitDefEqProofs only [go_sem, Nat.reduceLT, Nat.reduceEqDiff, Nat.reduceAdd, Nat.reduceLeDiff, Nat.reduceMul, Nat.reduceSub, Int.reduceEq, reduceCtorEq, reduceIte, *] <;> rfl) (fun h => ?_) (fun h => ?_) <;> try simp only [Int.ofNat_lt, Int.ofNat_le, gdV, decide_eq_true_eq, decide_eq_false_iff_not, Bool.not_eq_true', Bool.not_eq_false', reduceCtorEq, Bool.true_eq_false, Bool.false_eq_true] at h)
      | simp -implicitDefEqProofs only [go_sem, Nat.reduceLT, Nat.reduceEqDiff, Nat.reduceAdd, Nat.reduceLeDiff, Nat.reduceMul, Nat.reduceSub, Int.reduceEq, reduceCtorEq, reduceIte, *]
      | (refine call_view (f := .func 106) (by simp -implicitDefEqProofs only [go_sem, Nat.reduceLT, Nat.reduceEqDiff, Nat.reduceAdd, Nat.reduceLeDiff, Nat.reduceMul, Nat.reduceSub, Int.reduceEq, reduceCtorEq, reduceIte] <;> rfl) (by simp -implicitDefEqProofs only [go_sem, Nat.reduceLT, Nat.reduceEqDiff, Nat.reduceAdd, Nat.reduceLeDiff, Nat.reduceMul, Nat.reduceSub, Int.reduceEq, reduceCtorEq, reduceIte] <;> rfl) (by simp -implicitDefEqProofs only [go_sem, Nat.reduceLT, Nat.reduceEqDiff, Nat.reduceAdd, Nat.reduceLeDiff, Nat.reduceMul, Nat.reduceSub, Int.reduceEq, reduceCtorEq, reduceIte]) (by first | trivial | simp) he106 (fun E => c2106 _ _ hU10 hn16 hn0 E) (fun sv E' hQ => ?_); obtain ⟨w, hQ, hwl, hw16⟩ := hQ; subst hQ; refine ⟨frss, ?_⟩; have hnz : w.length = 0 ∨ (0 < w.length ∧ ¬ (w.length : Int) = 0) := (by omega); rcases hnz with hz | ⟨hz, hnz⟩)
      | (refine call_lendF 100000 (f := .func 107) (by simp -implicitDefEqProofs only [go_sem, Nat.reduceLT, Nat.reduceEqDiff, Nat.reduceAdd, Nat.reduceLeDiff, Nat.reduceMul, Nat.reduceSub, Int.reduceEq, reduceCtorEq, reduceIte, *] <;> first | rfl | exact ⟨rfl, rfl⟩) (by simp -implicitDefEqProofs only [go_sem, Nat.reduceLT, Nat.reduceEqDiff, Nat.reduceAdd, Nat.reduceLeDiff, Nat.reduceMul, Nat.reduceSub, Int.reduceEq, reduceCtorEq, reduceIte, *] <;> first | rfl | exact ⟨rfl, rfl⟩) (by simp -implicitDefEqProofs only [go_sem, Nat.reduceLT, Nat.reduceEqDiff, Nat.reduceAdd, Nat.reduceLeDiff, Nat.reduceMul, Nat.reduceSub, Int.reduceEq, reduceCtorEq, reduceIte, *] <;> first | rfl | exact ⟨rfl, rfl⟩) (by simp -implicitDefEqProofs only [go_sem, Nat.reduceLT, Nat.reduceEqDiff, Nat.reduceAdd, Nat.reduceLeDiff, Nat.reduceMul, Nat.reduceSub, Int.reduceEq, reduceCtorEq, reduceIte, *] <;> first | rfl | exact ⟨rfl, rfl⟩) (by simp -implicitDefEqProofs only [go_sem, Nat.reduceLT, Nat.reduceEqDiff, Nat.reduceAdd, Nat.reduceLeDiff, Nat.reduceMul, Nat.reduceSub, Int.reduceEq, reduceCtorEq, reduceIte, *]) (by first | trivial | simp) (by first | trivial | simp) he107 (fun E hE => c106 _ _ _ hb (by omega) E hE) (fun sv E' hQ => ?_); obtain ⟨f, p2, hnm, hfl, hfs, hQ, hp1, hp2, hE'⟩ := hQ; subst hQ; have hfz : f.nm.size ≤ 16 := (by rw [hnm]; exact hw16 _ (List.getElem_mem _)); clear hnm; refine ⟨_, hE', ?_⟩)
      | (refine fork_intro (fun h => ?_) (fun h => ?_) <;> try simp only [Int.ofNat_lt, Int.ofNat_le, gdV, decide_eq_true_eq, decide_eq_false_iff_not, Bool.not_eq_true', Bool.not_eq_false', reduceCtorEq, Bool.true_eq_false, Bool.false_eq_true] at h))
    all_goals first
      | (exfalso; omega)
      | exact ⟨by simp, us, p1, hU10, rfl, hp1, by omega, rfl⟩
      | (have e2 : us.map uc ++ [[.sl false 3 [[.lit (.string w[0]), .lit (.bool false), .sl false 3 [[.lit (.int .i64 6), .lit (.int .i64 0), .lit (.string ⟨#[]⟩)]]]]]] = (us ++ [[(⟨w[0], false, [⟨6, 0, ⟨#[]⟩⟩]⟩ : F)]]).map uc := by simp [uc, fc, ic]
         refine ⟨⟨(n + 1, us ++ [[(⟨w[0], false, [⟨6, 0, ⟨#[]⟩⟩]⟩ : F)]], p2), by show n + 1 ≤ 7; omega, un_snoc hU (by omega) (by simp) (fun f hf => by simp only [List.mem_singleton] at hf; subst hf; exact smG_ret (hw16 _ (List.getElem_mem _))), by show p ≤ p2; omega, by show p2 ≤ p + 40 * (n + 1); omega⟩, by show 7 - (n + 1) < 7 - n; omega, ?_⟩
         simp only
         refine le_fr ?_ ?_ ?_ ?_ <;> simp -implicitDefEqProofs only [go_sem, Nat.reduceLT, Nat.reduceEqDiff, Nat.reduceAdd, Nat.reduceLeDiff, Nat.reduceMul, Nat.reduceSub, Int.reduceEq, reduceCtorEq, reduceIte, *] <;> first | rfl | (rw [wrap64 (by omega) (by omega)]; rfl) | (simp; done) | exact ⟨rfl, rfl⟩ | (refine ⟨rfl, ?_⟩; rw [wrap64 (by omega) (by omega)]; rfl))
      | (have e2 : us.map uc ++ [[.sl false 3 [[.lit (.string f.nm), .lit (.bool f.wk), .sl false 3 (f.bd.map ic)]]]] = (us ++ [[f]]).map uc := by simp [uc, fc]
         refine ⟨⟨(n + 1, us ++ [[f]], p2), by show n + 1 ≤ 7; omega, un_snoc hU (by omega) (by simp) (fun g hg => by simp only [List.mem_singleton] at hg; subst hg; exact ⟨hfz, ⟨by omega, by omega⟩, hfs⟩), by show p ≤ p2; omega, by show p2 ≤ p + 40 * (n + 1); omega⟩, by show 7 - (n + 1) < 7 - n; omega, ?_⟩
         simp only
         refine le_fr ?_ ?_ ?_ ?_ <;> simp -implicitDefEqProofs only [go_sem, Nat.reduceLT, Nat.reduceEqDiff, Nat.reduceAdd, Nat.reduceLeDiff, Nat.reduceMul, Nat.reduceSub, Int.reduceEq, reduceCtorEq, reduceIte, *] <;> first | rfl | (rw [wrap64 (by omega) (by omega)]; rfl) | (simp; done) | exact ⟨rfl, rfl⟩ | (refine ⟨rfl, ?_⟩; rw [wrap64 (by omega) (by omega)]; rfl))
  · have hn : ¬ (n : Int) < 7 := by omega
    repeat' (first
      | refine swp_seq ?_ | refine swp_region ?_ | refine swp_block ?_ | refine swp_skip ?_ | refine swp_ret ?_ | refine swp_exit ?_
      | (refine swp_cond (by simp -implicitDefEqProofs only [go_sem, Nat.reduceLT, Nat.reduceEqDiff, Nat.reduceAdd, Nat.reduceLeDiff, Nat.reduceMul, Nat.reduceSub, Int.reduceEq, reduceCtorEq, reduceIte, *] <;> rfl) (fun h => ?_) (fun h => ?_) <;> try simp only [Int.ofNat_lt, Int.ofNat_le, gdV, decide_eq_true_eq, decide_eq_false_iff_not, Bool.not_eq_true', Bool.not_eq_false', reduceCtorEq, Bool.true_eq_false, Bool.false_eq_true] at h)
      | simp -implicitDefEqProofs only [go_sem, Nat.reduceLT, Nat.reduceEqDiff, Nat.reduceAdd, Nat.reduceLeDiff, Nat.reduceMul, Nat.reduceSub, Int.reduceEq, reduceCtorEq, reduceIte, *]
      | (refine fork_intro (fun h => ?_) (fun h => ?_) <;> try simp only [Int.ofNat_lt, Int.ofNat_le, gdV, decide_eq_true_eq, decide_eq_false_iff_not, Bool.not_eq_true', Bool.not_eq_false', reduceCtorEq, Bool.true_eq_false, Bool.false_eq_true] at h))
    all_goals exact ⟨by simp, us, p1, hU10, rfl, hp1, by omega, rfl⟩

theorem at_cases {us : List (List F)} {s : ByteArray} {a b : Int} {c : Bool} (h : c = true → AtN us s a b) : c = false ∨ (c = true ∧ ∃ x y : Nat, a = x ∧ b = y ∧ ∃ (hx : x < us.length) (hy : y < us[x].length), us[x][y].nm = s) := by
  cases c
  · exact .inl rfl
  · exact .inr ⟨rfl, h rfl⟩
theorem nodup_le : ∀ {l m : List ByteArray}, l.Nodup → (∀ x ∈ l, x ∈ m) → l.length ≤ m.length
  | [], m, _, _ => by simp
  | x :: l, m, hn, hm => by
    rw [List.nodup_cons] at hn
    have h1 : x ∈ m := hm x List.mem_cons_self
    have h2 := nodup_le (l := l) (m := m.filter fun t => !decide (t = x)) hn.2 (fun y hy => List.mem_filter.2 ⟨hm y (List.mem_cons_of_mem _ hy), by
      have : y ≠ x := fun e => hn.1 (e ▸ hy)
      simpa using this⟩)
    have h3 : (m.filter fun t => !decide (t = x)).length < m.length := List.length_filter_lt_length_iff_exists.2 ⟨x, h1, by simp⟩
    simp only [List.length_cons]; omega
theorem flat_le : ∀ {us : List (List F)}, (∀ u ∈ us, u.length ≤ 3) → us.flatten.length ≤ 3 * us.length
  | [], _ => by simp
  | u :: us, h => by
    have h1 := h u List.mem_cons_self
    have h2 := flat_le (us := us) fun v hv => h v (List.mem_cons_of_mem _ hv)
    simp only [List.flatten_cons, List.length_append, List.length_cons]; omega
/-- A walk: names without twins, of which the first ones are there. -/
def Wk (us : List (List F)) (m : Nat) (ns : List ByteArray) : Prop := ns.Nodup ∧ m ≤ ns.length ∧ 1 ≤ ns.length ∧ ∀ s ∈ ns.take m, s ∈ us.flatten.map F.nm
theorem wk_le {us : List (List F)} {m : Nat} {ns : List ByteArray} (hU : Un 10 us) (h : Wk us m ns) : m ≤ 30 := by
  obtain ⟨h1, h2, _, h3⟩ := h
  have h4 := nodup_le (h1.sublist (List.take_sublist m ns)) h3
  have h5 := flat_le (us := us) fun u hu => (hU.2 u hu).1
  have h6 := hU.1
  simp only [List.length_take, List.length_map] at h4
  omega
theorem wk_step {us : List (List F)} {m : Nat} {ns : List ByteArray} {x y : Nat} (h : Wk us m ns) (hm : m < ns.length) (hx : x < us.length) (hy : y < us[x].length) (hxy : us[x][y].nm = ns[m]) : Wk us (m + 1) ns :=
  ⟨h.1, hm, h.2.2.1, fun s hs => by
    rw [List.take_succ_eq_append_getElem hm] at hs
    rcases List.mem_append.1 hs with h1 | h1
    · exact h.2.2.2 s h1
    · simp only [List.mem_singleton] at h1
      subst h1
      exact List.mem_map.2 ⟨us[x][y], List.mem_flatten.2 ⟨us[x], List.getElem_mem _, List.getElem_mem _⟩, hxy⟩⟩
theorem wk_snoc {us : List (List F)} {m : Nat} {ns : List ByteArray} {s : ByteArray} (h : Wk us m ns) (hs : s ∉ ns) : Wk us m (ns ++ [s]) :=
  ⟨List.nodup_append.2 ⟨h.1, by simp, fun a ha b hb => by simp only [List.mem_singleton] at hb; subst hb; intro e; subst e; exact hs ha⟩, by have := h.2.1; simp; omega, by simp, by rw [List.take_append_of_le_length h.2.1]; exact h.2.2.2⟩
theorem has_cases (ns : List ByteArray) (s : ByteArray) : hasB ns s = true ∨ (hasB ns s = false ∧ s ∉ ns) := by
  by_cases h : s ∈ ns
  · exact .inl (hasB_iff.2 h)
  · exact .inr ⟨hasB_no h, h⟩
def walkSV (b : Bool) (d : D) : SV := .tup [(false, [d]), (false, [.lit (.bool b)])]
def progP (n : Nat) (u : List F) : Prop := (1 ≤ u.length ∧ u.length ≤ n) ∧ ∀ f ∈ u, smG f
def InvW (us : List (List F)) (y : List ByteArray × List F) : Prop := Wk us y.2.length y.1 ∧ (∀ f ∈ y.2, smG f) ∧ y.1.length ≤ 1 + 7 * y.2.length
theorem c2095 (us : List (List F)) (nm : ByteArray) (hU : Un 10 us) (E) : AC Try.prog 95 [.one (.sl false 1 (us.map uc)), .one (.lit (.string nm))] E (fun sv _ => sv = walkSV false .nil ∨ ∃ u, sv = walkSV true (.sl true 3 (u.map fc)) ∧ progP 30 u) := by
  have hul := hU.1
  have hU11 := un_mono hU (m := 11) (by omega)
  unfold walkSV
  refine AC_of_swp (n := 71) (rs := [.tmp 4, .tmp 5]) hf95 rfl rfl rfl rfl rfl ?_
  repeat' (first
    | refine swp_seq ?_ | refine swp_region ?_ | refine swp_block ?_ | refine swp_skip ?_ | refine swp_ret ?_ | refine swp_exit ?_
    | (refine swp_cond (by simp -implicitDefEqProofs only [go_sem, Nat.reduceLT, Nat.reduceEqDiff, Nat.reduceAdd, Nat.reduceLeDiff, Nat.reduceMul, Nat.reduceSub, Int.reduceEq, reduceCtorEq, reduceIte, *] <;> rfl) (fun h => ?_) (fun h => ?_) <;> try simp only [Int.ofNat_lt, Int.ofNat_le, gdV, decide_eq_true_eq, decide_eq_false_iff_not, Bool.not_eq_true', Bool.not_eq_false', reduceCtorEq, Bool.true_eq_false, Bool.false_eq_true] at h)
    | simp -implicitDefEqProofs only [go_sem, Nat.reduceLT, Nat.reduceEqDiff, Nat.reduceAdd, Nat.reduceLeDiff, Nat.reduceMul, Nat.reduceSub, Int.reduceEq, reduceCtorEq, reduceIte, *]
    | (refine fork_intro (fun h => ?_) (fun h => ?_) <;> try simp only [Int.ofNat_lt, Int.ofNat_le, gdV, decide_eq_true_eq, decide_eq_false_iff_not, Bool.not_eq_true', Bool.not_eq_false', reduceCtorEq, Bool.true_eq_false, Bool.false_eq_true] at h))
  refine swp_loop (ι := { y : List ByteArray × List F // InvW us y }) (fun y => fr 71 [.one (.sl false 1 (us.map uc)), .none, .none, .none, .none, .none, .one (.sl true 1 ((y.1.1).map strRow)), .one (.sl true 3 ((y.1.2).map fc)), .one (.lit (.int .i64 ((y.1.2.length : Int) : Int)))] []) (fun y => 100 - y.1.2.length) ⟨([nm], []), ⟨by simp, by simp, by simp, fun s hs => by simp at hs⟩, fun f hf => by simp at hf, by simp⟩ ?_ ?_
  · refine le_fr ?_ ?_ ?_ ?_ <;> simp -implicitDefEqProofs only [go_sem, Nat.reduceLT, Nat.reduceEqDiff, Nat.reduceAdd, Nat.reduceLeDiff, Nat.reduceMul, Nat.reduceSub, Int.reduceEq, reduceCtorEq, reduceIte, *] <;> first | rfl | (rw [wrap64 (by omega) (by omega)]; rfl) | (simp; done) | exact ⟨rfl, rfl⟩ | (refine ⟨rfl, ?_⟩; rw [wrap64 (by omega) (by omega)]; rfl)
  rintro ⟨⟨ns, pp⟩, hwk, hpg, hnl⟩
  simp only at hwk hpg hnl ⊢
  have h30 := wk_le hU hwk
  have hA : (pp.length + 1) * 48 ≤ 140737488355328 := by omega
  have hB : pp.length + 1 ≤ 9223372036854775807 := by omega
  have hw : IntKind.i64.wrap ((pp.length : Int) + 1) = ((pp.length + 1 : Nat) : Int) := by rw [wrap64 (by omega) (by omega)]; omega
  have hr1 : ∀ x y : Nat, ∀ (hx : x < us.length) (hy : y < us[x].length), us[x][y].bd.length ≤ 1048576 := fun x y hx hy => by have := ((hU.2 _ (List.getElem_mem hx)).2 _ (List.getElem_mem hy)).2.1; omega
  rcases Nat.lt_or_ge pp.length ns.length with hlt | hge
  · have hn : (pp.length : Int) < ns.length := by omega
    repeat' (first
      | refine swp_seq ?_ | refine swp_region ?_ | refine swp_block ?_ | refine swp_skip ?_ | refine swp_ret ?_ | refine swp_exit ?_
      | (refine swp_cond (by simp -implicitDefEqProofs only [go_sem, Nat.reduceLT, Nat.reduceEqDiff, Nat.reduceAdd, Nat.reduceLeDiff, Nat.reduceMul, Nat.reduceSub, Int.reduceEq, reduceCtorEq, reduceIte, *] <;> rfl) (fun h => ?_) (fun h => ?_) <;> try simp only [Int.ofNat_lt, Int.ofNat_le, gdV, decide_eq_true_eq, decide_eq_false_iff_not, Bool.not_eq_true', Bool.not_eq_false', reduceCtorEq, Bool.true_eq_false, Bool.false_eq_true] at h)
      | simp -implicitDefEqProofs only [go_sem, Nat.reduceLT, Nat.reduceEqDiff, Nat.reduceAdd, Nat.reduceLeDiff, Nat.reduceMul, Nat.reduceSub, Int.reduceEq, reduceCtorEq, reduceIte, *]
      | (refine call_view (f := .func 109) (by simp -implicitDefEqProofs only [go_sem, Nat.reduceLT, Nat.reduceEqDiff, Nat.reduceAdd, Nat.reduceLeDiff, Nat.reduceMul, Nat.reduceSub, Int.reduceEq, reduceCtorEq, reduceIte] <;> rfl) (by simp -implicitDefEqProofs only [go_sem, Nat.reduceLT, Nat.reduceEqDiff, Nat.reduceAdd, Nat.reduceLeDiff, Nat.reduceMul, Nat.reduceSub, Int.reduceEq, reduceCtorEq, reduceIte] <;> rfl) (by simp -implicitDefEqProofs only [go_sem, Nat.reduceLT, Nat.reduceEqDiff, Nat.reduceAdd, Nat.reduceLeDiff, Nat.reduceMul, Nat.reduceSub, Int.reduceEq, reduceCtorEq, reduceIte]) (by first | trivial | simp) he109 (fun E => c2109 _ _ hU11 E) (fun sv E' hQ => ?_); obtain ⟨a, b, c, hQ, hat⟩ := hQ; subst hQ; unfold atSV; refine ⟨by simp [SV.Fresh], ?_⟩; rcases at_cases hat with rfl | ⟨rfl, x, y, rfl, rfl, hx, hy, hxy⟩)
      | (refine call_view (f := .func 41) (by simp -implicitDefEqProofs only [go_sem, Nat.reduceLT, Nat.reduceEqDiff, Nat.reduceAdd, Nat.reduceLeDiff, Nat.reduceMul, Nat.reduceSub, Int.reduceEq, reduceCtorEq, reduceIte] <;> rfl) (by simp -implicitDefEqProofs only [go_sem, Nat.reduceLT, Nat.reduceEqDiff, Nat.reduceAdd, Nat.reduceLeDiff, Nat.reduceMul, Nat.reduceSub, Int.reduceEq, reduceCtorEq, reduceIte] <;> rfl) (by simp -implicitDefEqProofs only [go_sem, Nat.reduceLT, Nat.reduceEqDiff, Nat.reduceAdd, Nat.reduceLeDiff, Nat.reduceMul, Nat.reduceSub, Int.reduceEq, reduceCtorEq, reduceIte]) (by first | trivial | simp) he41 (fun E => c89 _ (hr1 _ _ (by assumption) (by assumption)) E) (fun sv E' hQ => ?_); subst hQ; refine ⟨frss, ?_⟩)
      | (refine fork_intro (fun h => ?_) (fun h => ?_) <;> try simp only [Int.ofNat_lt, Int.ofNat_le, gdV, decide_eq_true_eq, decide_eq_false_iff_not, Bool.not_eq_true', Bool.not_eq_false', reduceCtorEq, Bool.true_eq_false, Bool.false_eq_true] at h))
    · simp
    have hG := (hU.2 _ (List.getElem_mem hx)).2 _ (List.getElem_mem hy)
    have hr7 := refs_sz hG
    have hst := wk_step hwk hlt hx hy hxy
    have e1 : pp.map fc ++ [[.lit (.string us[x][y].nm), .lit (.bool us[x][y].wk), .sl false 3 (us[x][y].bd.map ic)]] = (pp ++ [us[x][y]]).map fc := by simp [fc]
    have e1' : pp.map fc ++ [[.lit (.string ns[pp.length]), .lit (.bool us[x][y].wk), .sl false 3 (us[x][y].bd.map ic)]] = (pp ++ [us[x][y]]).map fc := by rw [← hxy]; exact e1
    have hql : (pp ++ [us[x][y]]).length = pp.length + 1 := by simp
    have hqg : ∀ f ∈ pp ++ [us[x][y]], smG f := fun f hf => (List.mem_append.1 hf).elim (hpg f) (fun e => by simp only [List.mem_singleton] at e; subst e; exact hG)
    generalize pp ++ [us[x][y]] = q at e1 e1' hql hqg
    generalize refsN us[x][y].bd = r at hr7 ⊢
    have hrl := hr7.1
    clear hr7
    refine swp_loop (ι := { y : Nat × List ByteArray // y.1 ≤ r.length ∧ Wk us (pp.length + 1) y.2 ∧ y.2.length ≤ 1 + 7 * pp.length + y.1 }) (fun y => fr 71 [.one (.sl false 1 (us.map uc)), .none, .none, .none, .none, .none, .one (.sl true 1 ((y.1.2).map strRow)), .one (.sl true 3 ((q).map fc)), .one (.lit (.int .i64 ((pp.length : Int) : Int))), .none, .none, .none, .none, .one (.sl true 1 ((r).map strRow)), .one (.lit (.int .i64 ((y.1.1 : Int) : Int)))] []) (fun y => r.length - y.1.1) ⟨(0, ns), Nat.zero_le _, hst, hnl⟩ ?_ ?_
    · refine le_fr ?_ ?_ ?_ ?_ <;> simp -implicitDefEqProofs only [go_sem, Nat.reduceLT, Nat.reduceEqDiff, Nat.reduceAdd, Nat.reduceLeDiff, Nat.reduceMul, Nat.reduceSub, Int.reduceEq, reduceCtorEq, reduceIte, *] <;> first | rfl | (rw [wrap64 (by omega) (by omega)]; rfl) | (simp; done) | exact ⟨rfl, rfl⟩ | (refine ⟨rfl, ?_⟩; rw [wrap64 (by omega) (by omega)]; rfl)
    clear hst hnl hwk hn hxy e1 e1' hat hlt
    rintro ⟨⟨k, ns⟩, hk, hwk, hnl⟩
    simp only at hk hwk hnl ⊢
    have hns2 : ns.length ≤ 1048576 := by omega
    have hA2 : (ns.length + 1) * 16 ≤ 140737488355328 := by omega
    have hB2 : ns.length + 1 ≤ 9223372036854775807 := by omega
    have hw2 : IntKind.i64.wrap ((k : Int) + 1) = ((k + 1 : Nat) : Int) := by rw [wrap64 (by omega) (by omega)]; omega
    rcases Nat.lt_or_ge k r.length with hklt | hkge
    · have hkn : (k : Int) < r.length := by omega
      repeat' (first
        | refine swp_seq ?_ | refine swp_region ?_ | refine swp_block ?_ | refine swp_skip ?_ | refine swp_ret ?_ | refine swp_exit ?_
        | (refine swp_cond (by simp -implicitDefEqProofs only [go_sem, Nat.reduceLT, Nat.reduceEqDiff, Nat.reduceAdd, Nat.reduceLeDiff, Nat.reduceMul, Nat.reduceSub, Int.reduceEq, reduceCtorEq, reduceIte, *] <;> rfl) (fun h => ?_) (fun h => ?_) <;> try simp only [Int.ofNat_lt, Int.ofNat_le, gdV, decide_eq_true_eq, decide_eq_false_iff_not, Bool.not_eq_true', Bool.not_eq_false', reduceCtorEq, Bool.true_eq_false, Bool.false_eq_true] at h)
        | simp -implicitDefEqProofs only [go_sem, Nat.reduceLT, Nat.reduceEqDiff, Nat.reduceAdd, Nat.reduceLeDiff, Nat.reduceMul, Nat.reduceSub, Int.reduceEq, reduceCtorEq, reduceIte, *]
        | (refine call_view (f := .func 75) (by simp -implicitDefEqProofs only [go_sem, Nat.reduceLT, Nat.reduceEqDiff, Nat.reduceAdd, Nat.reduceLeDiff, Nat.reduceMul, Nat.reduceSub, Int.reduceEq, reduceCtorEq, reduceIte] <;> rfl) (by simp -implicitDefEqProofs only [go_sem, Nat.reduceLT, Nat.reduceEqDiff, Nat.reduceAdd, Nat.reduceLeDiff, Nat.reduceMul, Nat.reduceSub, Int.reduceEq, reduceCtorEq, reduceIte] <;> rfl) (by simp -implicitDefEqProofs only [go_sem, Nat.reduceLT, Nat.reduceEqDiff, Nat.reduceAdd, Nat.reduceLeDiff, Nat.reduceMul, Nat.reduceSub, Int.reduceEq, reduceCtorEq, reduceIte]) (by first | trivial | simp) he75 (fun E => c100 _ _ hns2 E) (fun sv E' hQ => ?_); subst hQ; refine ⟨by simp [SV.Fresh], ?_⟩; rcases has_cases ns r[k] with hh | ⟨hh, hh2⟩)
        | (refine fork_intro (fun h => ?_) (fun h => ?_) <;> try simp only [Int.ofNat_lt, Int.ofNat_le, gdV, decide_eq_true_eq, decide_eq_false_iff_not, Bool.not_eq_true', Bool.not_eq_false', reduceCtorEq, Bool.true_eq_false, Bool.false_eq_true] at h))
      all_goals first
        | (refine ⟨⟨(k + 1, ns), by show k + 1 ≤ r.length; omega, hwk, by show ns.length ≤ 1 + 7 * pp.length + (k + 1); omega⟩, by show r.length - (k + 1) < r.length - k; omega, ?_⟩
           simp only
           refine le_fr ?_ ?_ ?_ ?_ <;> simp -implicitDefEqProofs only [go_sem, Nat.reduceLT, Nat.reduceEqDiff, Nat.reduceAdd, Nat.reduceLeDiff, Nat.reduceMul, Nat.reduceSub, Int.reduceEq, reduceCtorEq, reduceIte, *] <;> first | rfl | (rw [wrap64 (by omega) (by omega)]; rfl) | (simp; done) | exact ⟨rfl, rfl⟩ | (refine ⟨rfl, ?_⟩; rw [wrap64 (by omega) (by omega)]; rfl))
        | (have e2 : ns.map strRow ++ [[.lit (.string r[k])]] = (ns ++ [r[k]]).map strRow := by simp [strRow]
           refine ⟨⟨(k + 1, ns ++ [r[k]]), by show k + 1 ≤ r.length; omega, wk_snoc hwk hh2, by show (ns ++ [r[k]]).length ≤ 1 + 7 * pp.length + (k + 1); simp; omega⟩, by show r.length - (k + 1) < r.length - k; omega, ?_⟩
           simp only
           refine le_fr ?_ ?_ ?_ ?_ <;> simp -implicitDefEqProofs only [go_sem, Nat.reduceLT, Nat.reduceEqDiff, Nat.reduceAdd, Nat.reduceLeDiff, Nat.reduceMul, Nat.reduceSub, Int.reduceEq, reduceCtorEq, reduceIte, *] <;> first | rfl | (rw [wrap64 (by omega) (by omega)]; rfl) | (simp; done) | exact ⟨rfl, rfl⟩ | (refine ⟨rfl, ?_⟩; rw [wrap64 (by omega) (by omega)]; rfl))
    · have hkn : ¬ (k : Int) < r.length := by omega
      repeat' (first
        | refine swp_seq ?_ | refine swp_region ?_ | refine swp_block ?_ | refine swp_skip ?_ | refine swp_ret ?_ | refine swp_exit ?_
        | (refine swp_cond (by simp -implicitDefEqProofs only [go_sem, Nat.reduceLT, Nat.reduceEqDiff, Nat.reduceAdd, Nat.reduceLeDiff, Nat.reduceMul, Nat.reduceSub, Int.reduceEq, reduceCtorEq, reduceIte, *] <;> rfl) (fun h => ?_) (fun h => ?_) <;> try simp only [Int.ofNat_lt, Int.ofNat_le, gdV, decide_eq_true_eq, decide_eq_false_iff_not, Bool.not_eq_true', Bool.not_eq_false', reduceCtorEq, Bool.true_eq_false, Bool.false_eq_true] at h)
        | simp -implicitDefEqProofs only [go_sem, Nat.reduceLT, Nat.reduceEqDiff, Nat.reduceAdd, Nat.reduceLeDiff, Nat.reduceMul, Nat.reduceSub, Int.reduceEq, reduceCtorEq, reduceIte, *]
        | (refine fork_intro (fun h => ?_) (fun h => ?_) <;> try simp only [Int.ofNat_lt, Int.ofNat_le, gdV, decide_eq_true_eq, decide_eq_false_iff_not, Bool.not_eq_true', Bool.not_eq_false', reduceCtorEq, Bool.true_eq_false, Bool.false_eq_true] at h))
      refine ⟨⟨(ns, q), by show Wk us q.length ns; rw [hql]; exact hwk, hqg, by show ns.length ≤ 1 + 7 * q.length; rw [hql]; omega⟩, by show 100 - q.length < 100 - pp.length; rw [hql]; omega, ?_⟩
      simp only
      refine le_fr ?_ ?_ ?_ ?_ <;> simp -implicitDefEqProofs only [go_sem, Nat.reduceLT, Nat.reduceEqDiff, Nat.reduceAdd, Nat.reduceLeDiff, Nat.reduceMul, Nat.reduceSub, Int.reduceEq, reduceCtorEq, reduceIte, *] <;> first | rfl | (rw [wrap64 (by omega) (by omega)]; rfl) | (simp; done) | exact ⟨rfl, rfl⟩ | (refine ⟨rfl, ?_⟩; rw [wrap64 (by omega) (by omega)]; rfl)
  · have hn : ¬ (pp.length : Int) < ns.length := by omega
    repeat' (first
      | refine swp_seq ?_ | refine swp_region ?_ | refine swp_block ?_ | refine swp_skip ?_ | refine swp_ret ?_ | refine swp_exit ?_
      | (refine swp_cond (by simp -implicitDefEqProofs only [go_sem, Nat.reduceLT, Nat.reduceEqDiff, Nat.reduceAdd, Nat.reduceLeDiff, Nat.reduceMul, Nat.reduceSub, Int.reduceEq, reduceCtorEq, reduceIte, *] <;> rfl) (fun h => ?_) (fun h => ?_) <;> try simp only [Int.ofNat_lt, Int.ofNat_le, gdV, decide_eq_true_eq, decide_eq_false_iff_not, Bool.not_eq_true', Bool.not_eq_false', reduceCtorEq, Bool.true_eq_false, Bool.false_eq_true] at h)
      | simp -implicitDefEqProofs only [go_sem, Nat.reduceLT, Nat.reduceEqDiff, Nat.reduceAdd, Nat.reduceLeDiff, Nat.reduceMul, Nat.reduceSub, Int.reduceEq, reduceCtorEq, reduceIte, *]
      | (refine fork_intro (fun h => ?_) (fun h => ?_) <;> try simp only [Int.ofNat_lt, Int.ofNat_le, gdV, decide_eq_true_eq, decide_eq_false_iff_not, Bool.not_eq_true', Bool.not_eq_false', reduceCtorEq, Bool.true_eq_false, Bool.false_eq_true] at h))
    all_goals exact ⟨by simp, .inr ⟨pp, rfl, ⟨by have := hwk.2.2.1; omega, h30⟩, hpg⟩⟩
end Go.Proofs.Ytlphbpjejdhaoaa
