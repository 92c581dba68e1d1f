/- The statement FnExactMapSpot holds: at every input the law's function returns true, and each argument reads behind the call as it read before. No condition. -/
import Derived.Test.YtookjkiagdkajaaRows
import Derived.Test.YtookjkiagdkajaaE6
import Derived.WalkKit
import Derived.ProofKit
import Derived.OpenShut
import Derived.ShutString
import Derived.ChangeOld
import Derived.Below
import Derived.SizedLaws
namespace Go.Proofs.Ytookjkiagdkajaa.fnExactMapSpot
open Go Go.AI Go.Proofs Go.ChangeShapes Go.WideShapes Go.ChangeAt Go.RowKit
open Go.ChangeMaps (open_string shut_string)
set_option linter.unusedVariables false
set_option maxRecDepth 100000
theorem own : ownKnob Try.prog.godebug = none := by kernel_rfl
theorem laidOut : laidOutB Try.prog = true := by kernel_rfl
set_option maxHeartbeats 4000000 in
theorem lifted (os : Os) (started : os.Started) (H : Type) (enc : TypeId × Value → H) :
    ReturnsInHanded {} Try.checked os 8 .any (Rows.fnExactMapSpotSpec.pre6 enc Try.prog Try.f8 Rows.fnExactMapSpotRow.domain false) (Rows.fnExactMapSpotSpec.post enc Try.prog Try.f8 false true false false) := by
  refine returnsInHanded_of_change_sized (C := Try.checked) own started (by kernel_rfl) Try.func8
    (ChangeSpec.witness6 (enc := enc) (C := Try.checked) false ⟨#[], #[.slice none 0 0, .agg #[.slice none 0 0, .slice none 0 0], .int .i64 0], []⟩ 8 (by kernel_rfl) (by kernel_rfl) (by kernel_rfl) (by kernel_rfl)) ?_
  intro W base args ds gs before hval0 hW hcnd hsz0 _
  have hsz : (DataW.weightsEach Try.prog (Try.f8.params.toList ++ Rows.fnExactMapSpotSpec.plain.varTypes Try.prog) (ds ++ gs)).all (· ≤ reachBytes) = true := hsz0
  have hval : ∀ (j : Nat) t v, Try.f8.params[j]? = some t → args[j]? = some v → Value.okWide Try.prog W .any base t v := hval0
  have hW' := hW
  obtain ⟨p, q, hA0, hV, rfl, hfz, hnd⟩ := hW
  have hA : DataW.TrodAll enc Try.prog W 0 (fun _ => true) true Try.f8.params.toList args.toList ds p := hA0
  rw [Try.params8] at hA hval hsz
  obtain ⟨v0, vs0, d0, ds0, p0, q0, hargs, rfl, rfl, h0, r0⟩ := trodAll_cons hA
  obtain ⟨v1, vs1, d1, ds1, p1, q1, rfl, rfl, rfl, h1, r1⟩ := trodAll_cons r0
  obtain ⟨v2, vs2, d2, ds2, p2, q2, rfl, rfl, rfl, h2, r2⟩ := trodAll_cons r1
  obtain ⟨rfl, rfl, rfl⟩ := trodAll_nil r2
  obtain rfl : args = #[v0, v1, v2] := by cases args; simp_all
  obtain ⟨rfl, rfl⟩ := trodVars_none hV
  have k0 := h0
  have lt0 : ∀ x ∈ p0, x.block < W.heap.size := by obtain ⟨m, hm⟩ := k0; exact DataW.trod_lt m _ _ _ hm
  have y0 := sized_mem hsz 0 (t := 42) (d := d0) rfl rfl
  have hv0 := hval 0 42 v0 rfl rfl
  have k1 := h1
  have lt1 : ∀ x ∈ p1, x.block < W.heap.size := by obtain ⟨m, hm⟩ := k1; exact DataW.trod_lt m _ _ _ hm
  have y1 := sized_mem hsz 1 (t := 53) (d := d1) rfl rfl
  have hv1 := hval 1 53 v1 rfl rfl
  have k2 := h2
  have lt2 : ∀ x ∈ p2, x.block < W.heap.size := by obtain ⟨m, hm⟩ := k2; exact DataW.trod_lt m _ _ _ hm
  have y2 := sized_mem hsz 2 (t := 3) (d := d2) rfl rfl
  have hv2 := hval 2 3 v2 rfl rfl
  clear hA0 hval0 hsz0 hsz hval
  have hc104 : Try.prog.cellsOf 104 = 3 := by kernel_rfl
  have hb104 : Try.prog.bytesOf 104 = 32 := by kernel_rfl
  have hc37 : Try.prog.cellsOf 37 = 3 := by kernel_rfl
  have hb37 : Try.prog.bytesOf 37 = 48 := by kernel_rfl
  have hins : ∀ row, Sh Try.prog 2 104 row → ∃ x : I, row = ic x ∧ x.s.size ≤ 140737488355328 := fun row hr => by
    obtain ⟨c1, c2, rfl, g1, c3, c4, rfl, g2, c5, c6, rfl, g3, rfl⟩ := sh_struct Try.underlying104 hr
    obtain ⟨op, rfl, _⟩ := sh_int Try.underlying3 g1
    obtain ⟨n, rfl, _⟩ := sh_int Try.underlying3 g2
    obtain ⟨s, rfl, hs⟩ := sh_string Try.underlying9 g3
    exact ⟨⟨op, n, s⟩, rfl, hs⟩
  have hfun : ∀ row, Sh Try.prog 4 37 row → ∃ f : F, row = fc f ∧ sizedF f := fun row hr => by
    obtain ⟨c1, c2, rfl, g1, c3, c4, rfl, g2, c5, c6, rfl, g3, rfl⟩ := sh_struct Try.underlying37 hr
    obtain ⟨nm, rfl, hnm⟩ := sh_string Try.underlying9 g1
    obtain ⟨wk, rfl⟩ := sh_bool Try.underlying4 g2
    obtain ⟨rows, rfl, hrl, hrows⟩ := sh_slice Try.underlying35 g3
    obtain ⟨l, rfl, hl⟩ := rows_map fun row hr => hins row (hrows row hr)
    rw [hb104, List.length_map] at hrl
    exact ⟨⟨nm, wk, l⟩, by rw [hc104]; rfl, hnm, by show l.length ≤ _; omega, hl⟩
  have hc3 : Try.prog.cellsOf 3 = 1 := by kernel_rfl
  have hb3 : Try.prog.bytesOf 3 = 8 := by kernel_rfl
  have hc75 : Try.prog.cellsOf 75 = 1 := by kernel_rfl
  have hb75 : Try.prog.bytesOf 75 = 24 := by kernel_rfl
  have hc9 : Try.prog.cellsOf 9 = 1 := by kernel_rfl
  have hb9 : Try.prog.bytesOf 9 = 16 := by kernel_rfl
  have hint : ∀ row, Sh Try.prog 3 3 row → ∃ x : Int, row = irow x ∧ True := fun row hr => by
    obtain ⟨x, rfl, _⟩ := sh_int Try.underlying3 hr
    exact ⟨x, rfl, trivial⟩
  have hstr : ∀ row, Sh Try.prog 2 9 row → ∃ x : ByteArray, row = strRow x ∧ x.size ≤ 140737488355328 := fun row hr => by
    obtain ⟨s, rfl, hs⟩ := sh_string Try.underlying9 hr
    exact ⟨s, rfl, hs⟩
  have hss : ∀ row, Sh Try.prog 3 75 row → ∃ ss : List ByteArray, row = ssrow ss ∧ ss.length ≤ 140737488355328 ∧ ∀ s ∈ ss, s.size ≤ 140737488355328 := fun row hr => by
    obtain ⟨rows, rfl, hrl, hrows⟩ := sh_slice Try.underlying75 hr
    obtain ⟨l, rfl, hl⟩ := rows_map fun row hr => hstr row (hrows row hr)
    rw [hb9, List.length_map] at hrl
    exact ⟨l, by rw [hc9]; rfl, by omega, hl⟩
  obtain ⟨x0, t0, s0⟩ := arg_one (n := 5) (t := 42) (by kernel_rfl) (one_slice Try.underlying42 hv0) h0 y0
  obtain ⟨rows, e0, hrl, hrows⟩ := sh_slice Try.underlying42 s0
  obtain ⟨u, rfl, hu⟩ := rows_map fun row hr => hfun row (hrows row hr)
  obtain rfl : x0 = .sl false (Try.prog.cellsOf 37) (u.map fc) := by simpa using e0
  rw [hc37] at t0
  rw [hb37, List.length_map] at hrl
  obtain ⟨dd1, t1, s1⟩ := arg_struct (n := 5) (t := 53) (by kernel_rfl) Try.underlying53 hv1 h1 y1
  obtain ⟨c1, c2, rfl, g1, c3, c4, rfl, g2, rfl⟩ := sh_struct Try.underlying53 s1
  obtain ⟨rowsa, rfl, hal, hra⟩ := sh_slice Try.underlying50 g1
  obtain ⟨a, rfl, _⟩ := rows_map fun row hr => hint row (hra row hr)
  obtain ⟨rowst, rfl, htl, hrt⟩ := sh_slice Try.underlying51 g2
  obtain ⟨t, rfl, hts⟩ := rows_map fun row hr => hss row (hrt row hr)
  rw [hc3, hc75] at t1
  rw [hb3, List.length_map] at hal
  rw [hb75, List.length_map] at htl
  obtain ⟨x2, t2, s2⟩ := arg_one (n := 1) (t := 3) (by kernel_rfl) (Go.AI.one_int Try.underlying3 hv2) h2 y2
  obtain ⟨k, e2, _⟩ := sh_int Try.underlying3 s2
  obtain rfl : x2 = .lit (.int .i64 k) := by simpa using e2
  refine (law_calls (c8 u a t k (by omega) hu (by omega) (by omega) hts _) (vs := [v0, v1, v2]) rfl (fun i sv hi => ?_) (by simp [SV.rows, D.isOwn])).mono fun e W' ⟨he, bel⟩ => ?_
  · match i, hi with
    | 0, hi => cases hi; exact ⟨v0, rfl, t0⟩
    | 1, hi => cases hi; exact ⟨v1, rfl, t1⟩
    | 2, hi => cases hi; exact ⟨v2, rfl, t2⟩
  subst he
  exact ⟨_, rfl, _, _, _, [], _, [], hW', trodAll_mk1 (shut_bool Try.underlying4 _), (trodAll_cons_mk (Below.trod laidOut (by kernel_rfl) (of_decide_eq_true (by kernel_rfl)) k0 bel lt0) (trodAll_cons_mk (Below.trod laidOut (by kernel_rfl) (of_decide_eq_true (by kernel_rfl)) k1 bel lt1) (trodAll_cons_mk (Below.trod laidOut (by kernel_rfl) (of_decide_eq_true (by kernel_rfl)) k2 bel lt2) trodAll_mk0))), rfl, bel.frame _, fun h => by cases h⟩
theorem over : Rows.fnExactMapSpotRow.holds Try.pinned (OpenSpec.ofChange Rows.fnExactMapSpotSpec) :=
  OpenClaim.holds_of_wide 8 Try.f8 rfl rfl rfl rfl rfl rfl rfl ⟨rfl, rfl, rfl, rfl, rfl⟩ rfl rfl rfl rfl rfl (by kernel_rfl) Try.func8 (by kernel_rfl)
    (of_decide_eq_true (by kernel_rfl)) (by unfold Func.isWrapper; first | (rw [if_pos (by decide +kernel)]; kernel_rfl) | (rw [if_neg (by decide +kernel)]; exact ⟨rfl, rfl⟩))
    (fun os started H enc _ => lifted os started H enc)
theorem proved : Rows.FnExactMapSpotSaid := over
#print axioms proved
end Go.Proofs.Ytookjkiagdkajaa.fnExactMapSpot
namespace Go.Proofs.Ytookjkiagdkajaa
/-- The statement, under a short name. -/
theorem fnExactMapSpot_holds : Rows.FnExactMapSpotSaid := fnExactMapSpot.proved
end Go.Proofs.Ytookjkiagdkajaa
