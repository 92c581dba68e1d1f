/- What is drawn: units, and where a name stands in them. No condition. -/
import Derived.Test.YtlphbpjejdhaoaaK4
open Go Go.AI Go.Proofs
set_option maxRecDepth 100000
set_option maxHeartbeats 4000000
set_option linter.unusedSimpArgs false
set_option linter.unusedVariables false
namespace Go.Proofs.Ytlphbpjejdhaoaa
attribute [local irreducible] awpOps opA callA Then Fork SWP

@[go_sem ↓] theorem fc_ok (l : List F) : ((l.map fc).all fun r => r.all fun d => d.okF) = true := by
  simp only [List.all_map, List.all_eq_true]; intro x _; rfl
@[go_sem ↓] theorem fc_ro (l : List F) : (l.map fc).map (fun r => r.map D.ro) = l.map fc := by
  simp only [List.map_map]; exact List.map_congr_left fun x _ => rfl
def uc (u : List F) : List D := [.sl false 3 (u.map fc)]
@[go_sem] theorem uc_eq (u : List F) : uc u = [.sl false 3 (u.map fc)] := rfl
@[go_sem] theorem uc_len (us : List (List F)) : (us.map uc).length = us.length := List.length_map ..
@[go_sem] theorem uc_get {us : List (List F)} {i : Nat} (h : i < us.length) : (us.map uc)[i]? = some (uc us[i]) := by simp [h]
@[go_sem ↓] theorem uc_ro (us : List (List F)) : (us.map uc).map (fun r => r.map D.ro) = us.map uc := by
  simp only [List.map_map]; exact List.map_congr_left fun x _ => rfl
@[go_sem ↓] theorem uc_ok (us : List (List F)) : ((us.map uc).all fun r => r.all fun d => d.okF) = true := by
  simp only [List.all_map, List.all_eq_true]; intro x _; rfl
/-- A few units, each small. -/
def Un (n : Nat) (us : List (List F)) : Prop := us.length ≤ n ∧ ∀ u ∈ us, u.length ≤ 3 ∧ ∀ f ∈ u, smG f
theorem un_nil {n : Nat} : Un n [] := ⟨Nat.zero_le _, fun u hu => by simp at hu⟩
theorem un_snoc {n m : Nat} {us : List (List F)} {u : List F} (h : Un n us) (hm : us.length + 1 ≤ m) (hu : u.length ≤ 3) (hG : ∀ f ∈ u, smG f) : Un m (us ++ [u]) :=
  ⟨by simpa using hm, fun v hv => (List.mem_append.1 hv).elim (h.2 v) (fun e => by simp only [List.mem_singleton] at e; subst e; exact ⟨hu, hG⟩)⟩
theorem un_mono {n m : Nat} {us : List (List F)} (h : Un n us) (hm : n ≤ m) : Un m us := ⟨Nat.le_trans h.1 hm, h.2⟩
def InvUs (p : Nat) (y : Nat × List (List F) × Nat) : Prop := y.1 + y.2.1.length ≤ 3 ∧ Un 3 y.2.1 ∧ p ≤ y.2.2 ∧ y.2.2 + 190 * y.1 ≤ p + 571
def unitsQ (b : List Nat) (p n c : Nat) (sv : SV) (E' : Nat → Option (Bool × List D)) : Prop := ∃ (us : List (List F)) (p' : Nat), Un n us ∧ sv = .one (.sl true 1 ((us).map uc)) ∧ p ≤ p' ∧ p' ≤ p + c ∧ E' 100000 = RD b p'
theorem c2094 (b : List Nat) (p : Nat) (hb : okB b) (hp : p ≤ 1020000) (E) (hE : E 100000 = RD b p) : AC Try.prog 94 [.one (.addr (.v 100000) [] 0 0 0), .one (.lit (.int .i64 3))] E (unitsQ b p 3 571) := by
  unfold unitsQ
  unfold RD at hE
  have w4 : IntKind.i64.wrap (3 + 1) = ((4 : Nat) : Int) := by decide
  refine AC_of_swp (n := 22) (rs := [.tmp 4]) hf94 rfl rfl rfl rfl rfl ?_
  repeat' (first
    | refine swp_seq ?_ | refine swp_region ?_ | refine swp_block ?_ | refine swp_skip ?_ | refine swp_ret ?_ | refine swp_exit ?_
    | (refine swp_cond (by simp -implicitDefEqProofs only [go_sem, Nat.reduceLT, Nat.reduceEqDiff, Nat.reduceAdd, Nat.reduceLeDiff, Nat.reduceMul, Nat.reduceSub, Int.reduceEq, reduceCtorEq, reduceIte, *] <;> rfl) (fun h => ?_) (fun h => ?_) <;> try simp only [Int.ofNat_lt, Int.ofNat_le, gdV, decide_eq_true_eq, decide_eq_false_iff_not, Bool.not_eq_true', Bool.not_eq_false', reduceCtorEq, Bool.true_eq_false, Bool.false_eq_true] at h)
    | simp -implicitDefEqProofs only [go_sem, Nat.reduceLT, Nat.reduceEqDiff, Nat.reduceAdd, Nat.reduceLeDiff, Nat.reduceMul, Nat.reduceSub, Int.reduceEq, reduceCtorEq, reduceIte, *]
    | (refine call_lendF 100000 (f := .func 61) (by simp -implicitDefEqProofs only [go_sem, Nat.reduceLT, Nat.reduceEqDiff, Nat.reduceAdd, Nat.reduceLeDiff, Nat.reduceMul, Nat.reduceSub, Int.reduceEq, reduceCtorEq, reduceIte, *] <;> first | rfl | exact ⟨rfl, rfl⟩) (by simp -implicitDefEqProofs only [go_sem, Nat.reduceLT, Nat.reduceEqDiff, Nat.reduceAdd, Nat.reduceLeDiff, Nat.reduceMul, Nat.reduceSub, Int.reduceEq, reduceCtorEq, reduceIte, *] <;> first | rfl | exact ⟨rfl, rfl⟩) (by simp -implicitDefEqProofs only [go_sem, Nat.reduceLT, Nat.reduceEqDiff, Nat.reduceAdd, Nat.reduceLeDiff, Nat.reduceMul, Nat.reduceSub, Int.reduceEq, reduceCtorEq, reduceIte, *] <;> first | rfl | exact ⟨rfl, rfl⟩) (by simp -implicitDefEqProofs only [go_sem, Nat.reduceLT, Nat.reduceEqDiff, Nat.reduceAdd, Nat.reduceLeDiff, Nat.reduceMul, Nat.reduceSub, Int.reduceEq, reduceCtorEq, reduceIte, *] <;> first | rfl | exact ⟨rfl, rfl⟩) (by simp -implicitDefEqProofs only [go_sem, Nat.reduceLT, Nat.reduceEqDiff, Nat.reduceAdd, Nat.reduceLeDiff, Nat.reduceMul, Nat.reduceSub, Int.reduceEq, reduceCtorEq, reduceIte, *]) (by first | trivial | simp) (by first | trivial | simp) he61 (fun E hE => c78 _ _ _ hb (by omega) E hE) (fun sv E' hQ => ?_); obtain ⟨x, hQ, hx, hE'⟩ := hQ; subst hQ; refine ⟨_, hE', ?_⟩)
    | (refine fork_intro (fun h => ?_) (fun h => ?_) <;> try simp only [Int.ofNat_lt, Int.ofNat_le, gdV, decide_eq_true_eq, decide_eq_false_iff_not, Bool.not_eq_true', Bool.not_eq_false', reduceCtorEq, Bool.true_eq_false, Bool.false_eq_true] at h))
  have hx4 : x < 4 := by have := hx (by omega); omega
  refine swp_loop (ι := { y : Nat × List (List F) × Nat // InvUs p y }) (fun y => (fr 22 [.one (.addr (.v 100000) [] 0 0 0), .none, .none, .none, .none, .one (.sl true 1 ((y.1.2.1).map uc)), .one (.lit (.int .i64 ((y.1.1 : Int) : Int)))] [(100000, true, [.sl false 1 (b.map brow), .lit (.int .i64 ((y.1.2.2 : Nat) : Int))])])) (fun y => y.1.1) ⟨(x, [], p + 1), by show x + 0 ≤ 3; omega, un_nil, by show p ≤ p + 1; omega, by show p + 1 + 190 * x ≤ p + 571; omega⟩ ?_ ?_
  · refine le_fr ?_ ?_ ?_ ?_ <;> simp -implicitDefEqProofs only [go_sem, Nat.reduceLT, Nat.reduceEqDiff, Nat.reduceAdd, Nat.reduceLeDiff, Nat.reduceMul, Nat.reduceSub, Int.reduceEq, reduceCtorEq, reduceIte, *] <;> first | rfl | (rw [wrap64 (by omega) (by omega)]; rfl) | (simp; done) | exact ⟨rfl, rfl⟩ | (refine ⟨rfl, ?_⟩; rw [wrap64 (by omega) (by omega)]; rfl)
  clear hx hE' hE
  rintro ⟨⟨i, us, p'⟩, hui, hun, hpp, hpq⟩
  simp only at hui hun hpp hpq ⊢
  have hA : (us.length + 1) * 32 ≤ 140737488355328 := by omega
  have hA2 : (us.length + 1) * 24 ≤ 140737488355328 := by omega
  have hB : us.length + 1 ≤ 9223372036854775807 := by omega
  rcases Nat.eq_zero_or_pos i with h0 | h0
  · subst h0
    have hn : ¬ (0 : Int) < ((0 : Nat) : Int) := by omega
    repeat' (first
      | refine swp_seq ?_ | refine swp_region ?_ | refine swp_block ?_ | refine swp_skip ?_ | refine swp_ret ?_ | refine swp_exit ?_
      | (refine swp_cond (by simp -implicitDefEqProofs only [go_sem, Nat.reduceLT, Nat.reduceEqDiff, Nat.reduceAdd, Nat.reduceLeDiff, Nat.reduceMul, Nat.reduceSub, Int.reduceEq, reduceCtorEq, reduceIte, *] <;> rfl) (fun h => ?_) (fun h => ?_) <;> try simp only [Int.ofNat_lt, Int.ofNat_le, gdV, decide_eq_true_eq, decide_eq_false_iff_not, Bool.not_eq_true', Bool.not_eq_false', reduceCtorEq, Bool.true_eq_false, Bool.false_eq_true] at h)
      | simp -implicitDefEqProofs only [go_sem, Nat.reduceLT, Nat.reduceEqDiff, Nat.reduceAdd, Nat.reduceLeDiff, Nat.reduceMul, Nat.reduceSub, Int.reduceEq, reduceCtorEq, reduceIte, *]
      | (refine fork_intro (fun h => ?_) (fun h => ?_) <;> try simp only [Int.ofNat_lt, Int.ofNat_le, gdV, decide_eq_true_eq, decide_eq_false_iff_not, Bool.not_eq_true', Bool.not_eq_false', reduceCtorEq, Bool.true_eq_false, Bool.false_eq_true] at h))
    all_goals exact ⟨by simp, us, p', hun, rfl, hpp, by omega, rfl⟩
  have hn : (0 : Int) < (i : Int) := by omega
  have hw : IntKind.i64.wrap ((i : Int) - 1) = ((i - 1 : Nat) : Int) := by rw [wrap64 (by omega) (by omega)]; omega
  repeat' (first
    | refine swp_seq ?_ | refine swp_region ?_ | refine swp_block ?_ | refine swp_skip ?_ | refine swp_ret ?_ | refine swp_exit ?_
    | (refine swp_cond (by simp -implicitDefEqProofs only [go_sem, Nat.reduceLT, Nat.reduceEqDiff, Nat.reduceAdd, Nat.reduceLeDiff, Nat.reduceMul, Nat.reduceSub, Int.reduceEq, reduceCtorEq, reduceIte, *] <;> rfl) (fun h => ?_) (fun h => ?_) <;> try simp only [Int.ofNat_lt, Int.ofNat_le, gdV, decide_eq_true_eq, decide_eq_false_iff_not, Bool.not_eq_true', Bool.not_eq_false', reduceCtorEq, Bool.true_eq_false, Bool.false_eq_true] at h)
    | simp -implicitDefEqProofs only [go_sem, Nat.reduceLT, Nat.reduceEqDiff, Nat.reduceAdd, Nat.reduceLeDiff, Nat.reduceMul, Nat.reduceSub, Int.reduceEq, reduceCtorEq, reduceIte, *]
    | (refine call_lendF 100000 (f := .func 108) (by simp -implicitDefEqProofs only [go_sem, Nat.reduceLT, Nat.reduceEqDiff, Nat.reduceAdd, Nat.reduceLeDiff, Nat.reduceMul, Nat.reduceSub, Int.reduceEq, reduceCtorEq, reduceIte, *] <;> first | rfl | exact ⟨rfl, rfl⟩) (by simp -implicitDefEqProofs only [go_sem, Nat.reduceLT, Nat.reduceEqDiff, Nat.reduceAdd, Nat.reduceLeDiff, Nat.reduceMul, Nat.reduceSub, Int.reduceEq, reduceCtorEq, reduceIte, *] <;> first | rfl | exact ⟨rfl, rfl⟩) (by simp -implicitDefEqProofs only [go_sem, Nat.reduceLT, Nat.reduceEqDiff, Nat.reduceAdd, Nat.reduceLeDiff, Nat.reduceMul, Nat.reduceSub, Int.reduceEq, reduceCtorEq, reduceIte, *] <;> first | rfl | exact ⟨rfl, rfl⟩) (by simp -implicitDefEqProofs only [go_sem, Nat.reduceLT, Nat.reduceEqDiff, Nat.reduceAdd, Nat.reduceLeDiff, Nat.reduceMul, Nat.reduceSub, Int.reduceEq, reduceCtorEq, reduceIte, *] <;> first | rfl | exact ⟨rfl, rfl⟩) (by simp -implicitDefEqProofs only [go_sem, Nat.reduceLT, Nat.reduceEqDiff, Nat.reduceAdd, Nat.reduceLeDiff, Nat.reduceMul, Nat.reduceSub, Int.reduceEq, reduceCtorEq, reduceIte, *]) (by first | trivial | simp) (by first | trivial | simp) he108 (fun E hE => c98 _ _ hb (by omega) E hE) (fun sv E' hQ => ?_); obtain ⟨u, p', hul, hus, hQ, hp1, hp2, hE'⟩ := hQ; subst hQ; refine ⟨_, hE', ?_⟩)
    | (refine fork_intro (fun h => ?_) (fun h => ?_) <;> try simp only [Int.ofNat_lt, Int.ofNat_le, gdV, decide_eq_true_eq, decide_eq_false_iff_not, Bool.not_eq_true', Bool.not_eq_false', reduceCtorEq, Bool.true_eq_false, Bool.false_eq_true] at h))
  have e2 : us.map uc ++ [[.sl false 3 (u.map fc)]] = (us ++ [u]).map uc := by simp [uc]
  refine ⟨⟨(i - 1, us ++ [u], _), by show i - 1 + (us ++ [u]).length ≤ 3; simp; omega, un_snoc hun (by omega) hul.2 hus, by show p ≤ p'; omega, by show p' + 190 * (i - 1) ≤ p + 571; omega⟩, by show i - 1 < i; omega, ?_⟩
  simp only
  refine le_fr ?_ ?_ ?_ ?_ <;> simp -implicitDefEqProofs only [go_sem, Nat.reduceLT, Nat.reduceEqDiff, Nat.reduceAdd, Nat.reduceLeDiff, Nat.reduceMul, Nat.reduceSub, Int.reduceEq, reduceCtorEq, reduceIte, *] <;> first | rfl | (rw [wrap64 (by omega) (by omega)]; rfl) | (simp; done) | exact ⟨rfl, rfl⟩ | (refine ⟨rfl, ?_⟩; rw [wrap64 (by omega) (by omega)]; rfl)
/-- Where a name was found in units. -/
def atSV (a b : Int) (c : Bool) : SV := .tup [(false, [.lit (.int .i64 a)]), (false, [.lit (.int .i64 b)]), (false, [.lit (.bool c)])]
def AtN (us : List (List F)) (s : ByteArray) (a b : Int) : Prop := ∃ x y : Nat, a = x ∧ b = y ∧ ∃ (hx : x < us.length) (hy : y < us[x].length), us[x][y].nm = s
theorem find_at {u : List F} {s : ByteArray} (h : ¬ findN u s < 0) : ∃ y : Nat, findN u s = y ∧ ∃ hy : y < u.length, u[y].nm = s := by
  unfold findN at h ⊢
  split at h
  · next hl =>
    have h2 := List.findIdx_getElem (p := fun f : F => decide (f.nm = s)) (xs := u) (w := hl)
    rw [if_pos hl]
    exact ⟨_, rfl, hl, by simpa using h2⟩
  · exact absurd (by omega : (-1 : Int) < 0) h
def InvAt (us : List (List F)) (s : ByteArray) (y : Nat × Int × Int) : Prop := y.1 ≤ us.length ∧ (y.2.1 < 0 ∨ AtN us s y.2.1 y.2.2)
theorem c88x (u : List F) (s : ByteArray) (hu : u.length ≤ 1048576) (E) : AC Try.prog 40 [.one (.sl false 3 (u.map fc)), .one (.lit (.string s))] E (fun sv _ => ∃ r : Int, sv = .one (.lit (.int .i64 r)) ∧ (r < 0 ∨ ∃ y : Nat, r = y ∧ ∃ hy : y < u.length, u[y].nm = s)) :=
  AC.mono (c88 u s hu E) fun sv E' h => ⟨_, h, (Decidable.em (findN u s < 0)).imp id find_at⟩
theorem c2109 (us : List (List F)) (s : ByteArray) (hU : Un 11 us) (E) : AC Try.prog 109 [.one (.sl false 1 (us.map uc)), .one (.lit (.string s))] E (fun sv _ => ∃ a b c, sv = atSV a b c ∧ (c = true → AtN us s a b)) := by
  have hul := hU.1
  unfold atSV
  refine AC_of_swp (n := 44) (rs := [.tmp 4, .tmp 5, .tmp 6]) hf109 rfl rfl rfl rfl rfl ?_
  repeat' (first
    | refine swp_seq ?_ | refine swp_region ?_ | refine swp_block ?_ | refine swp_skip ?_ | refine swp_ret ?_ | refine swp_exit ?_
    | (refine swp_cond (by simp -implicitDefEqProofs only [go_sem, Nat.reduceLT, Nat.reduceEqDiff, Nat.reduceAdd, Nat.reduceLeDiff, Nat.reduceMul, Nat.reduceSub, Int.reduceEq, reduceCtorEq, reduceIte, *] <;> rfl) (fun h => ?_) (fun h => ?_) <;> try simp only [Int.ofNat_lt, Int.ofNat_le, gdV, decide_eq_true_eq, decide_eq_false_iff_not, Bool.not_eq_true', Bool.not_eq_false', reduceCtorEq, Bool.true_eq_false, Bool.false_eq_true] at h)
    | simp -implicitDefEqProofs only [go_sem, Nat.reduceLT, Nat.reduceEqDiff, Nat.reduceAdd, Nat.reduceLeDiff, Nat.reduceMul, Nat.reduceSub, Int.reduceEq, reduceCtorEq, reduceIte, *]
    | (refine fork_intro (fun h => ?_) (fun h => ?_) <;> try simp only [Int.ofNat_lt, Int.ofNat_le, gdV, decide_eq_true_eq, decide_eq_false_iff_not, Bool.not_eq_true', Bool.not_eq_false', reduceCtorEq, Bool.true_eq_false, Bool.false_eq_true] at h))
  refine swp_loop (ι := { y : Nat × Int × Int // InvAt us s y }) (fun y => fr 44 [.one (.sl false 1 (us.map uc)), .one (.lit (.string s)), .none, .none, .none, .none, .none, .one (.lit (.int .i64 (y.1.2.1))), .one (.lit (.int .i64 (y.1.2.2))), .one (.lit (.int .i64 ((y.1.1 : Int) : Int)))] []) (fun y => us.length - y.1.1) ⟨(0, -1, -1), Nat.zero_le _, .inl (by show (-1 : Int) < 0; omega)⟩ ?_ ?_
  · refine le_fr ?_ ?_ ?_ ?_ <;> simp -implicitDefEqProofs only [go_sem, Nat.reduceLT, Nat.reduceEqDiff, Nat.reduceAdd, Nat.reduceLeDiff, Nat.reduceMul, Nat.reduceSub, Int.reduceEq, reduceCtorEq, reduceIte, *] <;> first | rfl | (rw [wrap64 (by omega) (by omega)]; rfl) | (simp; done) | exact ⟨rfl, rfl⟩ | (refine ⟨rfl, ?_⟩; rw [wrap64 (by omega) (by omega)]; rfl)
  rintro ⟨⟨i, a, b⟩, hi, hab⟩
  simp only at hi hab ⊢
  have hus : ∀ h : i < us.length, us[i].length ≤ 1048576 := fun h => by have := (hU.2 _ (List.getElem_mem h)).1; omega
  have hw : IntKind.i64.wrap ((i : Int) + 1) = ((i + 1 : Nat) : Int) := by rw [wrap64 (by omega) (by omega)]; omega
  repeat' (first
    | refine swp_seq ?_ | refine swp_region ?_ | refine swp_block ?_ | refine swp_skip ?_ | refine swp_ret ?_ | refine swp_exit ?_
    | (refine swp_cond (by simp -implicitDefEqProofs only [go_sem, Nat.reduceLT, Nat.reduceEqDiff, Nat.reduceAdd, Nat.reduceLeDiff, Nat.reduceMul, Nat.reduceSub, Int.reduceEq, reduceCtorEq, reduceIte, *] <;> rfl) (fun h => ?_) (fun h => ?_) <;> try simp only [Int.ofNat_lt, Int.ofNat_le, gdV, decide_eq_true_eq, decide_eq_false_iff_not, Bool.not_eq_true', Bool.not_eq_false', reduceCtorEq, Bool.true_eq_false, Bool.false_eq_true] at h)
    | simp -implicitDefEqProofs only [go_sem, Nat.reduceLT, Nat.reduceEqDiff, Nat.reduceAdd, Nat.reduceLeDiff, Nat.reduceMul, Nat.reduceSub, Int.reduceEq, reduceCtorEq, reduceIte, *]
    | (refine call_view (f := .func 40) (by simp -implicitDefEqProofs only [go_sem, Nat.reduceLT, Nat.reduceEqDiff, Nat.reduceAdd, Nat.reduceLeDiff, Nat.reduceMul, Nat.reduceSub, Int.reduceEq, reduceCtorEq, reduceIte] <;> rfl) (by simp -implicitDefEqProofs only [go_sem, Nat.reduceLT, Nat.reduceEqDiff, Nat.reduceAdd, Nat.reduceLeDiff, Nat.reduceMul, Nat.reduceSub, Int.reduceEq, reduceCtorEq, reduceIte] <;> rfl) (by simp -implicitDefEqProofs only [go_sem, Nat.reduceLT, Nat.reduceEqDiff, Nat.reduceAdd, Nat.reduceLeDiff, Nat.reduceMul, Nat.reduceSub, Int.reduceEq, reduceCtorEq, reduceIte]) (by first | trivial | simp) he40 (fun E => c88x _ _ (hus (by omega)) E) (fun sv E' hQ => ?_); obtain ⟨r, hQ, hr⟩ := hQ; subst hQ; rcases hr with hr | ⟨y, rfl, hy, hys⟩)
    | (refine fork_intro (fun h => ?_) (fun h => ?_) <;> try simp only [Int.ofNat_lt, Int.ofNat_le, gdV, decide_eq_true_eq, decide_eq_false_iff_not, Bool.not_eq_true', Bool.not_eq_false', reduceCtorEq, Bool.true_eq_false, Bool.false_eq_true] at h))
  all_goals first
    | (exfalso; omega)
    | exact ⟨by simp, _, _, false, rfl, fun h => by cases h⟩
    | exact ⟨by simp, _, _, true, rfl, fun _ => ⟨_, _, rfl, rfl, by assumption, by assumption, by assumption⟩⟩
    | exact ⟨by simp, _, _, true, rfl, fun _ => hab.resolve_left (by assumption)⟩
    | (refine ⟨⟨(i + 1, a, b), by show i + 1 ≤ us.length; omega, hab⟩, by show us.length - (i + 1) < us.length - i; omega, ?_⟩
       simp only
       refine le_fr ?_ ?_ ?_ ?_ <;> simp -implicitDefEqProofs only [go_sem, Nat.reduceLT, Nat.reduceEqDiff, Nat.reduceAdd, Nat.reduceLeDiff, Nat.reduceMul, Nat.reduceSub, Int.reduceEq, reduceCtorEq, reduceIte, *] <;> first | rfl | (rw [wrap64 (by omega) (by omega)]; rfl) | (simp; done) | exact ⟨rfl, rfl⟩ | (refine ⟨rfl, ?_⟩; rw [wrap64 (by omega) (by omega)]; rfl))
    | (refine ⟨⟨(i + 1, (i : Int), (y : Int)), by show i + 1 ≤ us.length; omega, .inr ⟨i, y, rfl, rfl, by assumption, hy, hys⟩⟩, by show us.length - (i + 1) < us.length - i; omega, ?_⟩
       simp only
       refine le_fr ?_ ?_ ?_ ?_ <;> simp -implicitDefEqProofs only [go_sem, Nat.reduceLT, Nat.reduceEqDiff, Nat.reduceAdd, Nat.reduceLeDiff, Nat.reduceMul, Nat.reduceSub, Int.reduceEq, reduceCtorEq, reduceIte, *] <;> first | rfl | (rw [wrap64 (by omega) (by omega)]; rfl) | (simp; done) | exact ⟨rfl, rfl⟩ | (refine ⟨rfl, ?_⟩; rw [wrap64 (by omega) (by omega)]; rfl))
theorem hasN_snoc {ns : List ByteArray} {s x : ByteArray} : x ∈ ns ++ [s] ↔ x ∈ ns ∨ x = s := by simp
def InvT (us : List (List F)) (y : Nat × List (List F) × List ByteArray) : Prop := y.1 ≤ us.length ∧ y.2.1.length ≤ y.1 ∧ Un 3 y.2.1 ∧ y.2.2.length ≤ 3 * y.1
def InvT2 (u : List F) (m : Nat) (y : Nat × List F × List ByteArray) : Prop := y.1 ≤ u.length ∧ y.2.1.length ≤ y.1 ∧ (∀ f ∈ y.2.1, smG f) ∧ y.2.2.length ≤ m + y.1
theorem c2093 (us : List (List F)) (hU : Un 3 us) (E) : AC Try.prog 93 [.one (.sl false 1 (us.map uc))] E (fun sv _ => ∃ ws, sv = .one (.sl true 1 ((ws).map uc)) ∧ Un 3 ws) := by
  have hul := hU.1
  refine AC_of_swp (n := 73) (rs := [.tmp 2]) hf93 rfl rfl rfl rfl rfl ?_
  repeat' (first
    | refine swp_seq ?_ | refine swp_region ?_ | refine swp_block ?_ | refine swp_skip ?_ | refine swp_ret ?_ | refine swp_exit ?_
    | (refine swp_cond (by simp -implicitDefEqProofs only [go_sem, Nat.reduceLT, Nat.reduceEqDiff, Nat.reduceAdd, Nat.reduceLeDiff, Nat.reduceMul, Nat.reduceSub, Int.reduceEq, reduceCtorEq, reduceIte, *] <;> rfl) (fun h => ?_) (fun h => ?_) <;> try simp only [Int.ofNat_lt, Int.ofNat_le, gdV, decide_eq_true_eq, decide_eq_false_iff_not, Bool.not_eq_true', Bool.not_eq_false', reduceCtorEq, Bool.true_eq_false, Bool.false_eq_true] at h)
    | simp -implicitDefEqProofs only [go_sem, Nat.reduceLT, Nat.reduceEqDiff, Nat.reduceAdd, Nat.reduceLeDiff, Nat.reduceMul, Nat.reduceSub, Int.reduceEq, reduceCtorEq, reduceIte, *]
    | (refine fork_intro (fun h => ?_) (fun h => ?_) <;> try simp only [Int.ofNat_lt, Int.ofNat_le, gdV, decide_eq_true_eq, decide_eq_false_iff_not, Bool.not_eq_true', Bool.not_eq_false', reduceCtorEq, Bool.true_eq_false, Bool.false_eq_true] at h))
  refine swp_loop (ι := { y : Nat × List (List F) × List ByteArray // InvT us y }) (fun y => fr 73 [.one (.sl false 1 (us.map uc)), .none, .none, .one (.sl true 1 ((y.1.2.1).map uc)), .one (.sl true 1 (y.1.2.2.map strRow)), .one (.lit (.int .i64 ((y.1.1 : Int) : Int)))] []) (fun y => us.length - y.1.1) ⟨(0, [], []), Nat.zero_le _, Nat.le_refl _, un_nil, Nat.le_refl _⟩ ?_ ?_
  · refine le_fr ?_ ?_ ?_ ?_ <;> simp -implicitDefEqProofs only [go_sem, Nat.reduceLT, Nat.reduceEqDiff, Nat.reduceAdd, Nat.reduceLeDiff, Nat.reduceMul, Nat.reduceSub, Int.reduceEq, reduceCtorEq, reduceIte, *] <;> first | rfl | (rw [wrap64 (by omega) (by omega)]; rfl) | (simp; done) | exact ⟨rfl, rfl⟩ | (refine ⟨rfl, ?_⟩; rw [wrap64 (by omega) (by omega)]; rfl)
  rintro ⟨⟨i, ws, ns⟩, hi, hwl, hw3, hns⟩
  simp only at hi hwl hw3 hns ⊢
  have hA : (ws.length + 1) * 24 ≤ 140737488355328 := by omega
  have hB : ws.length + 1 ≤ 9223372036854775807 := by omega
  have hw : IntKind.i64.wrap ((i : Int) + 1) = ((i + 1 : Nat) : Int) := by rw [wrap64 (by omega) (by omega)]; omega
  rcases Nat.lt_or_ge i us.length with hlt | hge
  · have hn : (i : Int) < us.length := by omega
    have hU1 := hU.2 _ (List.getElem_mem hlt)
    have huu := hU1.1
    repeat' (first
      | refine swp_seq ?_ | refine swp_region ?_ | refine swp_block ?_ | refine swp_skip ?_ | refine swp_ret ?_ | refine swp_exit ?_
      | (refine swp_cond (by simp -implicitDefEqProofs only [go_sem, Nat.reduceLT, Nat.reduceEqDiff, Nat.reduceAdd, Nat.reduceLeDiff, Nat.reduceMul, Nat.reduceSub, Int.reduceEq, reduceCtorEq, reduceIte, *] <;> rfl) (fun h => ?_) (fun h => ?_) <;> try simp only [Int.ofNat_lt, Int.ofNat_le, gdV, decide_eq_true_eq, decide_eq_false_iff_not, Bool.not_eq_true', Bool.not_eq_false', reduceCtorEq, Bool.true_eq_false, Bool.false_eq_true] at h)
      | simp -implicitDefEqProofs only [go_sem, Nat.reduceLT, Nat.reduceEqDiff, Nat.reduceAdd, Nat.reduceLeDiff, Nat.reduceMul, Nat.reduceSub, Int.reduceEq, reduceCtorEq, reduceIte, *]
      | (refine fork_intro (fun h => ?_) (fun h => ?_) <;> try simp only [Int.ofNat_lt, Int.ofNat_le, gdV, decide_eq_true_eq, decide_eq_false_iff_not, Bool.not_eq_true', Bool.not_eq_false', reduceCtorEq, Bool.true_eq_false, Bool.false_eq_true] at h))
    refine swp_loop (ι := { y : Nat × List F × List ByteArray // InvT2 us[i] (3 * i) y }) (fun y => fr 73 [.one (.sl false 1 (us.map uc)), .none, .none, .one (.sl true 1 ((ws).map uc)), .one (.sl true 1 (y.1.2.2.map strRow)), .one (.lit (.int .i64 ((i : Int) : Int))), .one (.sl true 3 (y.1.2.1.map fc)), .one (.lit (.int .i64 ((y.1.1 : Int) : Int)))] []) (fun y => us[i].length - y.1.1) ⟨(0, [], ns), Nat.zero_le _, Nat.le_refl _, fun f hf => by simp at hf, hns⟩ ?_ ?_
    · refine le_fr ?_ ?_ ?_ ?_ <;> simp -implicitDefEqProofs only [go_sem, Nat.reduceLT, Nat.reduceEqDiff, Nat.reduceAdd, Nat.reduceLeDiff, Nat.reduceMul, Nat.reduceSub, Int.reduceEq, reduceCtorEq, reduceIte, *] <;> first | rfl | (rw [wrap64 (by omega) (by omega)]; rfl) | (simp; done) | exact ⟨rfl, rfl⟩ | (refine ⟨rfl, ?_⟩; rw [wrap64 (by omega) (by omega)]; rfl)
    clear hns
    rintro ⟨⟨k, v, ns⟩, hk, hvk, hvs, hns⟩
    simp only at hk hvk hvs hns ⊢
    have hA1 : (v.length + 1) * 48 ≤ 140737488355328 := by omega
    have hB1 : v.length + 1 ≤ 9223372036854775807 := by omega
    have hA2 : (ns.length + 1) * 16 ≤ 140737488355328 := by omega
    have hB2 : ns.length + 1 ≤ 9223372036854775807 := by omega
    have hns2 : ns.length ≤ 1048576 := by omega
    have hw2 : IntKind.i64.wrap ((k : Int) + 1) = ((k + 1 : Nat) : Int) := by rw [wrap64 (by omega) (by omega)]; omega
    rcases Nat.lt_or_ge k us[i].length with hklt | hkge
    · have hkn : (k : Int) < us[i].length := by omega
      repeat' (first
        | refine swp_seq ?_ | refine swp_region ?_ | refine swp_block ?_ | refine swp_skip ?_ | refine swp_ret ?_ | refine swp_exit ?_
        | (refine swp_cond (by simp -implicitDefEqProofs only [go_sem, Nat.reduceLT, Nat.reduceEqDiff, Nat.reduceAdd, Nat.reduceLeDiff, Nat.reduceMul, Nat.reduceSub, Int.reduceEq, reduceCtorEq, reduceIte, *] <;> rfl) (fun h => ?_) (fun h => ?_) <;> try simp only [Int.ofNat_lt, Int.ofNat_le, gdV, decide_eq_true_eq, decide_eq_false_iff_not, Bool.not_eq_true', Bool.not_eq_false', reduceCtorEq, Bool.true_eq_false, Bool.false_eq_true] at h)
        | simp -implicitDefEqProofs only [go_sem, Nat.reduceLT, Nat.reduceEqDiff, Nat.reduceAdd, Nat.reduceLeDiff, Nat.reduceMul, Nat.reduceSub, Int.reduceEq, reduceCtorEq, reduceIte, *]
        | (refine call_view (f := .func 75) (by simp -implicitDefEqProofs only [go_sem, Nat.reduceLT, Nat.reduceEqDiff, Nat.reduceAdd, Nat.reduceLeDiff, Nat.reduceMul, Nat.reduceSub, Int.reduceEq, reduceCtorEq, reduceIte] <;> rfl) (by simp -implicitDefEqProofs only [go_sem, Nat.reduceLT, Nat.reduceEqDiff, Nat.reduceAdd, Nat.reduceLeDiff, Nat.reduceMul, Nat.reduceSub, Int.reduceEq, reduceCtorEq, reduceIte] <;> rfl) (by simp -implicitDefEqProofs only [go_sem, Nat.reduceLT, Nat.reduceEqDiff, Nat.reduceAdd, Nat.reduceLeDiff, Nat.reduceMul, Nat.reduceSub, Int.reduceEq, reduceCtorEq, reduceIte]) (by first | trivial | simp) he75 (fun E => c100 _ _ hns2 E) (fun sv E' hQ => ?_); subst hQ)
        | (refine fork_intro (fun h => ?_) (fun h => ?_) <;> try simp only [Int.ofNat_lt, Int.ofNat_le, gdV, decide_eq_true_eq, decide_eq_false_iff_not, Bool.not_eq_true', Bool.not_eq_false', reduceCtorEq, Bool.true_eq_false, Bool.false_eq_true] at h))
      all_goals first
        | (refine ⟨⟨(k + 1, v, ns), by show k + 1 ≤ us[i].length; omega, by show v.length ≤ k + 1; omega, hvs, by show ns.length ≤ 3 * i + (k + 1); omega⟩, by show us[i].length - (k + 1) < us[i].length - k; omega, ?_⟩
           simp only
           refine le_fr ?_ ?_ ?_ ?_ <;> simp -implicitDefEqProofs only [go_sem, Nat.reduceLT, Nat.reduceEqDiff, Nat.reduceAdd, Nat.reduceLeDiff, Nat.reduceMul, Nat.reduceSub, Int.reduceEq, reduceCtorEq, reduceIte, *] <;> first | rfl | (rw [wrap64 (by omega) (by omega)]; rfl) | (simp; done) | exact ⟨rfl, rfl⟩ | (refine ⟨rfl, ?_⟩; rw [wrap64 (by omega) (by omega)]; rfl))
        | (refine ⟨⟨(k + 1, v ++ [us[i][k]], ns ++ [us[i][k].nm]), by show k + 1 ≤ us[i].length; omega, by show (v ++ [us[i][k]]).length ≤ k + 1; simp; omega, fun f hf => (List.mem_append.1 hf).elim (hvs f) (fun e => by simp only [List.mem_singleton] at e; subst e; exact hU1.2 _ (List.getElem_mem hklt)), by show (ns ++ [us[i][k].nm]).length ≤ 3 * i + (k + 1); simp; omega⟩, by show us[i].length - (k + 1) < us[i].length - k; omega, ?_⟩
           have e1 : ∀ b, us[i][k].wk = b → v.map fc ++ [[.lit (.string us[i][k].nm), .lit (.bool b), .sl false 3 (us[i][k].bd.map ic)]] = (v ++ [us[i][k]]).map fc := fun b h => by subst h; simp [fc]
           have e2 : ns.map strRow ++ [[.lit (.string us[i][k].nm)]] = (ns ++ [us[i][k].nm]).map strRow := by simp [strRow]
           simp only
           refine le_fr ?_ ?_ ?_ ?_ <;> simp -implicitDefEqProofs only [go_sem, Nat.reduceLT, Nat.reduceEqDiff, Nat.reduceAdd, Nat.reduceLeDiff, Nat.reduceMul, Nat.reduceSub, Int.reduceEq, reduceCtorEq, reduceIte, *] <;> first | rfl | (rw [wrap64 (by omega) (by omega)]; rfl) | (simp; done) | exact ⟨rfl, rfl⟩ | (refine ⟨rfl, ?_⟩; rw [wrap64 (by omega) (by omega)]; rfl))
    · have hkn : ¬ (k : Int) < us[i].length := by omega
      repeat' (first
        | refine swp_seq ?_ | refine swp_region ?_ | refine swp_block ?_ | refine swp_skip ?_ | refine swp_ret ?_ | refine swp_exit ?_
        | (refine swp_cond (by simp -implicitDefEqProofs only [go_sem, Nat.reduceLT, Nat.reduceEqDiff, Nat.reduceAdd, Nat.reduceLeDiff, Nat.reduceMul, Nat.reduceSub, Int.reduceEq, reduceCtorEq, reduceIte, *] <;> rfl) (fun h => ?_) (fun h => ?_) <;> try simp only [Int.ofNat_lt, Int.ofNat_le, gdV, decide_eq_true_eq, decide_eq_false_iff_not, Bool.not_eq_true', Bool.not_eq_false', reduceCtorEq, Bool.true_eq_false, Bool.false_eq_true] at h)
        | simp -implicitDefEqProofs only [go_sem, Nat.reduceLT, Nat.reduceEqDiff, Nat.reduceAdd, Nat.reduceLeDiff, Nat.reduceMul, Nat.reduceSub, Int.reduceEq, reduceCtorEq, reduceIte, *]
        | (refine fork_intro (fun h => ?_) (fun h => ?_) <;> try simp only [Int.ofNat_lt, Int.ofNat_le, gdV, decide_eq_true_eq, decide_eq_false_iff_not, Bool.not_eq_true', Bool.not_eq_false', reduceCtorEq, Bool.true_eq_false, Bool.false_eq_true] at h))
      all_goals
        refine ⟨⟨(i + 1, ws ++ [v], ns), by show i + 1 ≤ us.length; omega, by show (ws ++ [v]).length ≤ i + 1; simp; omega, un_snoc hw3 (by omega) (by omega) hvs, by show ns.length ≤ 3 * (i + 1); omega⟩, by show us.length - (i + 1) < us.length - i; omega, ?_⟩
        have e2 : ws.map uc ++ [[.sl false 3 (v.map fc)]] = (ws ++ [v]).map uc := by simp [uc]
        simp only
        refine le_fr ?_ ?_ ?_ ?_ <;> simp -implicitDefEqProofs only [go_sem, Nat.reduceLT, Nat.reduceEqDiff, Nat.reduceAdd, Nat.reduceLeDiff, Nat.reduceMul, Nat.reduceSub, Int.reduceEq, reduceCtorEq, reduceIte, *] <;> first | rfl | (rw [wrap64 (by omega) (by omega)]; rfl) | (simp; done) | exact ⟨rfl, rfl⟩ | (refine ⟨rfl, ?_⟩; rw [wrap64 (by omega) (by omega)]; rfl)
  · have hn : ¬ (i : Int) < us.length := by omega
    repeat' (first
      | refine swp_seq ?_ | refine swp_region ?_ | refine swp_block ?_ | refine swp_skip ?_ | refine swp_ret ?_ | refine swp_exit ?_
      | (refine swp_cond (by simp -implicitDefEqProofs only [go_sem, Nat.reduceLT, Nat.reduceEqDiff, Nat.reduceAdd, Nat.reduceLeDiff, Nat.reduceMul, Nat.reduceSub, Int.reduceEq, reduceCtorEq, reduceIte, *] <;> rfl) (fun h => ?_) (fun h => ?_) <;> try simp only [Int.ofNat_lt, Int.ofNat_le, gdV, decide_eq_true_eq, decide_eq_false_iff_not, Bool.not_eq_true', Bool.not_eq_false', reduceCtorEq, Bool.true_eq_false, Bool.false_eq_true] at h)
      | simp -implicitDefEqProofs only [go_sem, Nat.reduceLT, Nat.reduceEqDiff, Nat.reduceAdd, Nat.reduceLeDiff, Nat.reduceMul, Nat.reduceSub, Int.reduceEq, reduceCtorEq, reduceIte, *]
      | (refine fork_intro (fun h => ?_) (fun h => ?_) <;> try simp only [Int.ofNat_lt, Int.ofNat_le, gdV, decide_eq_true_eq, decide_eq_false_iff_not, Bool.not_eq_true', Bool.not_eq_false', reduceCtorEq, Bool.true_eq_false, Bool.false_eq_true] at h))
    all_goals exact ⟨by simp, ws, rfl, hw3⟩
end Go.Proofs.Ytlphbpjejdhaoaa
