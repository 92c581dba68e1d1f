/- The statement FnExactFoldName holds: at every input the law's function returns true, and each argument reads behind the call as it read before. No condition. -/
import Derived.Test.YtookjkiagdkajaaRows
import Derived.Test.YtookjkiagdkajaaC7
import Derived.Test.YtookjkiagdkajaaAi3
import Derived.WalkKit
import Derived.ProofKit
import Derived.OpenShut
import Derived.ShutString
import Derived.ChangeOld
import Derived.Below
import Derived.SizedLaws
namespace Go.Proofs.Ytookjkiagdkajaa.fnExactFoldName
open Go Go.AI Go.Proofs Go.ChangeShapes Go.WideShapes Go.ChangeAt Go.RowKit
open Go.ChangeMaps (open_string shut_string)
set_option linter.unusedVariables false
set_option maxRecDepth 100000
theorem own : ownKnob Try.prog.godebug = none := by kernel_rfl
theorem laidOut : laidOutB Try.prog = true := by kernel_rfl
set_option maxHeartbeats 4000000 in
theorem lifted (os : Os) (started : os.Started) (H : Type) (enc : TypeId × Value → H) :
    ReturnsInHanded {} Try.checked os 4 .any (Rows.fnExactFoldNameSpec.pre6 enc Try.prog Try.f4 Rows.fnExactFoldNameRow.domain false) (Rows.fnExactFoldNameSpec.post enc Try.prog Try.f4 false true false false) := by
  refine returnsInHanded_of_change_sized (C := Try.checked) own started (by kernel_rfl) Try.func4
    (ChangeSpec.witness6 (enc := enc) (C := Try.checked) false ⟨#[], #[.agg #[.string ByteArray.empty, .bool false, .slice none 0 0], .string ByteArray.empty, .string ByteArray.empty], []⟩ 8 (by kernel_rfl) (by kernel_rfl) (by kernel_rfl) (by kernel_rfl)) ?_
  intro W base args ds gs before hval0 hW hcnd hsz0 _
  have hsz : (DataW.weightsEach Try.prog (Try.f4.params.toList ++ Rows.fnExactFoldNameSpec.plain.varTypes Try.prog) (ds ++ gs)).all (· ≤ reachBytes) = true := hsz0
  have hval : ∀ (j : Nat) t v, Try.f4.params[j]? = some t → args[j]? = some v → Value.okWide Try.prog W .any base t v := hval0
  have hW' := hW
  obtain ⟨p, q, hA0, hV, rfl, hfz, hnd⟩ := hW
  have hA : DataW.TrodAll enc Try.prog W 0 (fun _ => true) true Try.f4.params.toList args.toList ds p := hA0
  rw [Try.params4] at hA hval hsz
  obtain ⟨v0, vs0, d0, ds0, p0, q0, hargs, rfl, rfl, h0, r0⟩ := trodAll_cons hA
  obtain ⟨v1, vs1, d1, ds1, p1, q1, rfl, rfl, rfl, h1, r1⟩ := trodAll_cons r0
  obtain ⟨v2, vs2, d2, ds2, p2, q2, rfl, rfl, rfl, h2, r2⟩ := trodAll_cons r1
  obtain ⟨rfl, rfl, rfl⟩ := trodAll_nil r2
  obtain rfl : args = #[v0, v1, v2] := by cases args; simp_all
  obtain ⟨rfl, rfl⟩ := trodVars_none hV
  have k0 := h0
  have lt0 : ∀ x ∈ p0, x.block < W.heap.size := by obtain ⟨m, hm⟩ := k0; exact DataW.trod_lt m _ _ _ hm
  have y0 := sized_mem hsz 0 (t := 37) (d := d0) rfl rfl
  have hv0 := hval 0 37 v0 rfl rfl
  have k1 := h1
  have lt1 : ∀ x ∈ p1, x.block < W.heap.size := by obtain ⟨m, hm⟩ := k1; exact DataW.trod_lt m _ _ _ hm
  have y1 := sized_mem hsz 1 (t := 9) (d := d1) rfl rfl
  have hv1 := hval 1 9 v1 rfl rfl
  have k2 := h2
  have lt2 : ∀ x ∈ p2, x.block < W.heap.size := by obtain ⟨m, hm⟩ := k2; exact DataW.trod_lt m _ _ _ hm
  have y2 := sized_mem hsz 2 (t := 9) (d := d2) rfl rfl
  have hv2 := hval 2 9 v2 rfl rfl
  clear hA0 hval0 hsz0 hsz hval
  obtain ⟨dd, t0, s0⟩ := arg_struct (n := 4) (t := 37) (by kernel_rfl) Try.underlying37 hv0 h0 y0
  obtain ⟨x1, t1, s1⟩ := arg_one (n := 1) (t := 9) (by kernel_rfl) (one_string Try.underlying9 hv1) h1 y1
  obtain ⟨x2, t2, s2⟩ := arg_one (n := 1) (t := 9) (by kernel_rfl) (one_string Try.underlying9 hv2) h2 y2
  obtain ⟨a, ea, _⟩ := sh_string Try.underlying9 s1
  obtain ⟨b, eb, _⟩ := sh_string Try.underlying9 s2
  obtain rfl : x1 = .lit (.string a) := by simpa using ea
  obtain rfl : x2 = .lit (.string b) := by simpa using eb
  obtain ⟨c1, c2, rfl, g1, c3, c4, rfl, g2, c5, c6, rfl, g3, rfl⟩ := sh_struct Try.underlying37 s0
  obtain ⟨nm, rfl, hnm⟩ := sh_string Try.underlying9 g1
  obtain ⟨wk, rfl⟩ := sh_bool Try.underlying4 g2
  obtain ⟨rows, rfl, hrl, hrows⟩ := sh_slice Try.underlying35 g3
  have hrow : ∀ row ∈ rows, ∃ x : I, row = ic x ∧ x.s.size ≤ 140737488355328 := fun row hr => by
    obtain ⟨c1, c2, rfl, g1, c3, c4, rfl, g2, c5, c6, rfl, g3, rfl⟩ := sh_struct Try.underlying104 (hrows row hr)
    obtain ⟨op, rfl, _⟩ := sh_int Try.underlying3 g1
    obtain ⟨n, rfl, _⟩ := sh_int Try.underlying3 g2
    obtain ⟨s, rfl, hs⟩ := sh_string Try.underlying9 g3
    exact ⟨⟨op, n, s⟩, rfl, hs⟩
  obtain ⟨l, rfl, hl⟩ := rows_map hrow
  have hc : Try.prog.cellsOf 104 = 3 := by kernel_rfl
  have hb : Try.prog.bytesOf 104 = 32 := by kernel_rfl
  rw [hc] at t0
  rw [hb, List.length_map] at hrl
  refine (law_calls (c4 nm wk l a b hnm (by omega) hl _) (vs := [v0, v1, v2]) rfl (fun i sv hi => ?_) (by simp [SV.rows, D.isOwn])).mono fun e W' ⟨he, bel⟩ => ?_
  · match i, hi with
    | 0, hi => cases hi; exact ⟨v0, rfl, t0⟩
    | 1, hi => cases hi; exact ⟨v1, rfl, t1⟩
    | 2, hi => cases hi; exact ⟨v2, rfl, t2⟩
  subst he
  exact ⟨_, rfl, _, _, _, [], _, [], hW', trodAll_mk1 (shut_bool Try.underlying4 _), (trodAll_cons_mk (Below.trod laidOut (by kernel_rfl) (of_decide_eq_true (by kernel_rfl)) k0 bel lt0) (trodAll_cons_mk (Below.trod laidOut (by kernel_rfl) (of_decide_eq_true (by kernel_rfl)) k1 bel lt1) (trodAll_cons_mk (Below.trod laidOut (by kernel_rfl) (of_decide_eq_true (by kernel_rfl)) k2 bel lt2) trodAll_mk0))), rfl, bel.frame _, fun h => by cases h⟩
theorem over : Rows.fnExactFoldNameRow.holds Try.pinned (OpenSpec.ofChange Rows.fnExactFoldNameSpec) :=
  OpenClaim.holds_of_wide 4 Try.f4 rfl rfl rfl rfl rfl rfl rfl ⟨rfl, rfl, rfl, rfl, rfl⟩ rfl rfl rfl rfl rfl (by kernel_rfl) Try.func4 (by kernel_rfl)
    (of_decide_eq_true (by kernel_rfl)) (by unfold Func.isWrapper; first | (rw [if_pos (by decide +kernel)]; kernel_rfl) | (rw [if_neg (by decide +kernel)]; exact ⟨rfl, rfl⟩))
    (fun os started H enc _ => lifted os started H enc)
theorem proved : Rows.FnExactFoldNameSaid := over
#print axioms proved
end Go.Proofs.Ytookjkiagdkajaa.fnExactFoldName
namespace Go.Proofs.Ytookjkiagdkajaa
/-- The statement, under a short name. -/
theorem fnExactFoldName_holds : Rows.FnExactFoldNameSaid := fnExactFoldName.proved
end Go.Proofs.Ytookjkiagdkajaa
