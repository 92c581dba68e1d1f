/- Programs that are kept stay so when two functions become one. No condition. -/
import Derived.Test.YtlphbpjejdhaoaaG2
open Go Go.AI Go.Proofs
set_option maxRecDepth 100000
set_option linter.unusedSimpArgs false
set_option linter.unusedVariables false
namespace Go.Proofs.Ytlphbpjejdhaoaa

theorem findN_neg {u : List F} {s : ByteArray} : findN u s < 0 ↔ ∀ f ∈ u, f.nm ≠ s := by
  unfold findN
  split
  · next h =>
    rw [List.findIdx_lt_length] at h
    obtain ⟨f, hf, hs⟩ := h
    constructor
    · intro h2; omega
    · intro h2; exact absurd (by simpa using hs) (h2 f hf)
  · next h =>
    constructor
    · intro _ f hf hs
      exact h (List.findIdx_lt_length.2 ⟨f, hf, by simpa using hs⟩)
    · intro _; omega
theorem findN_at {u : List F} {i : Nat} (h : i < u.length) : findN u u[i].nm = i ↔ ∀ j (hj : j < u.length), j < i → u[j].nm ≠ u[i].nm := by
  constructor
  · intro hf j hj hji he
    unfold findN at hf
    split at hf
    · next h2 =>
      have h3 : u.findIdx (fun f => decide (f.nm = u[i].nm)) = i := by omega
      have h4 := List.not_of_lt_findIdx (p := fun f => decide (f.nm = u[i].nm)) (xs := u) (i := j) (by omega)
      have h5 : decide (u[j].nm = u[i].nm) = false := by simpa using h4
      simp [he] at h5
    · omega
  · intro h2; exact findN_hit h rfl h2
theorem mem_fold {s : ByteArray} : ∀ {l : List I} {r : List ByteArray}, s ∈ l.foldl addRef r ↔ s ∈ r ∨ ∃ x ∈ l, refers x.op = true ∧ x.s = s
  | [], r => by simp
  | x :: l, r => by
    rw [List.foldl_cons, mem_fold]
    unfold addRef
    by_cases h1 : refers x.op = true
    · by_cases h2 : hasB r x.s = true
      · have h3 : x.s ∈ r := by simpa [hasB] using h2
        simp [h1, h2]
        constructor
        · rintro (h | ⟨y, hy⟩)
          · exact .inl h
          · exact .inr (.inr ⟨y, hy⟩)
        · rintro (h | rfl | ⟨y, hy⟩)
          · exact .inl h
          · exact .inl h3
          · exact .inr ⟨y, hy⟩
      · simp [h1, h2]
        constructor
        · rintro ((h | rfl) | ⟨y, hy⟩)
          · exact .inl h
          · exact .inr (.inl rfl)
          · exact .inr (.inr ⟨y, hy⟩)
        · rintro (h | rfl | ⟨y, hy⟩)
          · exact .inl (.inl h)
          · exact .inl (.inr rfl)
          · exact .inr ⟨y, hy⟩
    · simp [h1]
theorem mem_refsN {s : ByteArray} {l : List I} : s ∈ refsN l ↔ ∃ x ∈ l, refers x.op = true ∧ x.s = s := by
  unfold refsN; rw [mem_fold]; simp
theorem keepOk_iff {u : List F} : keepOk u = true ↔ (1 ≤ u.length ∧ u.length ≤ 40) ∧ (∀ f ∈ u, funOk f.nm f.bd = true) ∧ (u.map F.nm).Nodup ∧ ∀ f ∈ u, ∀ x ∈ f.bd, refers x.op = true → ∃ g ∈ u, g.nm = x.s := by
  have hlack : lackU u u.length = [] ↔ ∀ f ∈ u, ∀ x ∈ f.bd, refers x.op = true → ∃ g ∈ u, g.nm = x.s := by
    unfold lackU
    rw [List.take_length, List.flatMap_eq_nil_iff]
    constructor
    · intro h f hf x hx hr
      have h1 := h f hf
      rw [List.filter_eq_nil_iff] at h1
      have h2 := h1 x.s (mem_refsN.2 ⟨x, hx, hr, rfl⟩)
      rw [lk, decide_eq_true_eq, findN_neg] at h2
      exact Classical.byContradiction fun h3 => h2 fun g hg he => h3 ⟨g, hg, he⟩
    · intro h f hf
      rw [List.filter_eq_nil_iff]
      intro s hs
      obtain ⟨x, hx, hr, rfl⟩ := mem_refsN.1 hs
      obtain ⟨g, hg, he⟩ := h f hf x hx hr
      rw [lk, decide_eq_true_eq, findN_neg]
      exact fun h2 => h2 g hg he
  have hnames : namesOk u = true ↔ (∀ f ∈ u, funOk f.nm f.bd = true) ∧ (u.map F.nm).Nodup := by
    unfold namesOk
    rw [List.all_eq_true]
    constructor
    · intro h
      have h1 : ∀ i (hi : i < u.length), funOk u[i].nm u[i].bd = true ∧ findN u u[i].nm = i := fun i hi => by
        have := h i (List.mem_range.2 hi)
        simpa [okAt, hi] using this
      refine ⟨fun f hf => ?_, ?_⟩
      · obtain ⟨i, hi, rfl⟩ := List.getElem_of_mem hf
        exact (h1 i hi).1
      · rw [List.Nodup, List.pairwise_iff_getElem]
        intro i j hi hj hij
        simp only [List.length_map] at hi hj
        simp only [List.getElem_map]
        exact (findN_at hj).1 (h1 j hj).2 i hi hij
    · rintro ⟨h1, h2⟩ i hi
      have hi := List.mem_range.1 hi
      rw [List.Nodup, List.pairwise_iff_getElem] at h2
      simp only [okAt, hi, dif_pos, Bool.and_eq_true, decide_eq_true_eq]
      refine ⟨h1 _ (List.getElem_mem hi), (findN_at hi).2 fun j hj hji => ?_⟩
      have := h2 j i (by simpa using hj) (by simpa using hi) hji
      simpa using this
  unfold keepOk
  simp only [Bool.and_eq_true, decide_eq_true_eq, hnames, hlack]
  constructor
  · rintro ⟨⟨h1, h2⟩, ⟨h3, h4⟩, h5⟩; exact ⟨⟨by omega, by omega⟩, h3, h4, h5⟩
  · rintro ⟨⟨h1, h2⟩, h3, h4, h5⟩; exact ⟨⟨by omega, by omega⟩, ⟨h3, h4⟩, h5⟩
theorem outU_eq {u : List F} {a b : ByteArray} {k : Nat} : ∀ n, n ≤ u.length → outU u a b k n = ((u.take n).eraseIdx k).map (renF a b)
  | 0, _ => by simp [outU]
  | n + 1, h => by
    have h1 := outU_eq (u := u) (a := a) (b := b) (k := k) n (by omega)
    have hl : (u.take n).length = n := by simp; omega
    by_cases hk : n = k
    · subst hk
      rw [outU_hit rfl, h1, take_step (by omega), List.eraseIdx_append_of_length_le (by omega), hl, List.eraseIdx_of_length_le (by omega)]
      simp
    · rw [outU_step (by omega) hk, h1, take_step (by omega)]
      rcases Nat.lt_or_ge k n with hkn | hkn
      · rw [List.eraseIdx_append_of_lt_length (by omega)]; simp
      · rw [List.eraseIdx_of_length_le (by omega), List.eraseIdx_of_length_le (by simp; omega), List.map_append]; rfl
theorem onceU_eq {u : List F} {x y : Nat} : onceU u x y = (u.eraseIdx y).map (renF (nmU u y) (nmU u x)) := by
  rw [onceU, outU_eq _ (Nat.le_refl _), List.take_length]
theorem ren_op {a b : ByteArray} {x : I} : (ren a b x).op = x.op := by unfold ren; split <;> rfl
theorem insOk_ren {a b : ByteArray} {x : I} (hb : nameOk b = true) (h : x.ok = true) : (ren a b x).ok = true := by
  unfold ren
  split
  · next hc =>
    obtain ⟨h1, rfl⟩ := hc
    simp only [refers, Bool.and_eq_true, decide_eq_true_eq] at h1
    show insOk x.op x.n b = true
    have h : insOk x.op x.n x.s = true := h
    unfold insOk at h ⊢
    rw [if_neg (by omega), if_neg (by omega), if_pos h1] at h ⊢
    simp only [Bool.and_eq_true] at h ⊢
    exact ⟨h.1, hb⟩
  · exact h
theorem funOk_ren {a b nm : ByteArray} {l : List I} (hb : nameOk b = true) (h : funOk nm l = true) : funOk nm (l.map (ren a b)) = true := by
  have hpos := funOk_pos h
  unfold funOk at h ⊢
  simp only [Bool.and_eq_true, List.length_map, List.all_map, List.all_eq_true] at h ⊢
  refine ⟨h.1, fun x hx => insOk_ren hb (h.2.1 x hx), ?_⟩
  have h2 := h.2.2
  rw [lastOk_pos hpos] at h2
  rw [lastOk_pos (by simpa using hpos)]
  simpa [ren_op] using h2
theorem keepOk_once {u : List F} {x y : Nat} (hk : keepOk u = true) (hx : x < u.length) (hy : y < u.length) (hxy : x < y) : keepOk (onceU u x y) = true := by
  rw [keepOk_iff] at hk ⊢
  obtain ⟨⟨h1, h2⟩, h3, h4, h5⟩ := hk
  rw [onceU_eq, nmU_lt hx, nmU_lt hy]
  have hmem : ∀ f, f ∈ u.eraseIdx y → f ∈ u := fun f hf => List.mem_of_mem_eraseIdx hf
  have hxm : u[x] ∈ u.eraseIdx y := List.mem_eraseIdx_iff_getElem.2 ⟨x, hx, by omega, rfl⟩
  have hnx : nameOk u[x].nm = true := by
    have := h3 _ (List.getElem_mem hx)
    simp only [funOk, Bool.and_eq_true] at this
    exact this.1.1
  refine ⟨⟨?_, ?_⟩, fun f hf => ?_, ?_, fun f hf i hi hr => ?_⟩
  · rw [List.length_map, List.length_eraseIdx_of_lt hy]; omega
  · rw [List.length_map, List.length_eraseIdx_of_lt hy]; omega
  · obtain ⟨g, hg, rfl⟩ := List.mem_map.1 hf
    exact funOk_ren hnx (h3 g (hmem g hg))
  · have : ((u.eraseIdx y).map (renF u[y].nm u[x].nm)).map F.nm = (u.map F.nm).eraseIdx y := by
      simp [List.eraseIdx_eq_take_drop_succ, List.map_take, List.map_drop, renF, Function.comp_def]
    rw [this]
    exact List.Nodup.sublist (List.eraseIdx_sublist _ _) h4
  · obtain ⟨g, hg, rfl⟩ := List.mem_map.1 hf
    obtain ⟨i0, hi0, rfl⟩ := List.mem_map.1 (show i ∈ g.bd.map (ren u[y].nm u[x].nm) from hi)
    rw [ren_op] at hr
    obtain ⟨t, ht, hts⟩ := h5 g (hmem g hg) i0 hi0 hr
    by_cases e : i0.s = u[y].nm
    · refine ⟨renF u[y].nm u[x].nm u[x], List.mem_map.2 ⟨_, hxm, rfl⟩, ?_⟩
      simp [ren, hr, e, renF]
    · have hs : (ren u[y].nm u[x].nm i0).s = i0.s := by simp [ren, e]
      refine ⟨renF u[y].nm u[x].nm t, List.mem_map.2 ⟨t, ?_, rfl⟩, by rw [hs]; exact hts⟩
      obtain ⟨j, hj, rfl⟩ := List.getElem_of_mem ht
      refine List.mem_eraseIdx_iff_getElem.2 ⟨j, hj, fun e2 => ?_, rfl⟩
      subst e2; exact e hts.symm

inductive Reach : List F → List F → Prop
  | refl (u : List F) : Reach u u
  | step {u v r : List F} : OneS u true v → Reach v r → Reach u r
theorem one_keep {u v : List F} (hk : keepOk u = true) (h : OneS u true v) : keepOk v = true := by
  obtain ⟨i, j, hT, rfl⟩ := h
  rcases hT with ⟨_, x, y, rfl, rfl, hxy, hal, _⟩ | ⟨h, _⟩
  · simp only [if_true, Int.toNat_natCast]
    exact keepOk_once hk (al_lt hal).1 (al_lt hal).2 hxy
  · cases h
theorem one_false {u v : List F} (h : OneS u false v) : v = u := by
  obtain ⟨i, j, _, rfl⟩ := h; simp
end Go.Proofs.Ytlphbpjejdhaoaa
