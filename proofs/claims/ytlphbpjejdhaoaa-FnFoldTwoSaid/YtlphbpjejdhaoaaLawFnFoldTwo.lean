/- The statement FnFoldTwo holds: at every input the law's function returns true, and each argument reads behind the call as it read before. No condition. -/
import Derived.Test.YtlphbpjejdhaoaaRows
import Derived.Test.YtlphbpjejdhaoaaN5
import Derived.WalkKit
import Derived.ProofKit
import Derived.OpenShut
import Derived.ShutString
import Derived.ChangeOld
import Derived.Below
import Derived.SizedLaws
namespace Go.Proofs.Ytlphbpjejdhaoaa.fnFoldTwo
open Go Go.AI Go.Proofs Go.ChangeShapes Go.WideShapes Go.ChangeAt Go.RowKit
open Go.ChangeMaps (open_string shut_string)
set_option linter.unusedVariables false
set_option maxRecDepth 100000
theorem u8_wf {z : Int} (h : (Lit.int .u8 z).wf = true) : 0 ≤ z ∧ z < 256 := by
  simp only [Lit.wf, IntKind.min, IntKind.max, IntKind.signed, IntKind.bits, Bool.and_eq_true, decide_eq_true_eq, Bool.false_eq_true, if_false] at h
  omega
theorem own : ownKnob Try.prog.godebug = none := by kernel_rfl
theorem laidOut : laidOutB Try.prog = true := by kernel_rfl
set_option maxHeartbeats 4000000 in
theorem lifted (os : Os) (started : os.Started) (H : Type) (enc : TypeId × Value → H) :
    ReturnsInHanded {} Try.checked os 6 .any (Rows.fnFoldTwoSpec.pre6 enc Try.prog Try.f6 Rows.fnFoldTwoRow.domain false) (Rows.fnFoldTwoSpec.post enc Try.prog Try.f6 false true false false) := by
  refine returnsInHanded_of_change_sized (C := Try.checked) own started (by kernel_rfl) Try.func6
    (ChangeSpec.witness6 (enc := enc) (C := Try.checked) false ⟨#[], #[.slice none 0 0], []⟩ 8 (by kernel_rfl) (by kernel_rfl) (by kernel_rfl) (by kernel_rfl)) ?_
  intro W base args ds gs before hval0 hW hcnd hsz0 _
  have hsz : (DataW.weightsEach Try.prog (Try.f6.params.toList ++ Rows.fnFoldTwoSpec.plain.varTypes Try.prog) (ds ++ gs)).all (· ≤ reachBytes) = true := hsz0
  have hval : ∀ (j : Nat) t v, Try.f6.params[j]? = some t → args[j]? = some v → Value.okWide Try.prog W .any base t v := hval0
  have hW' := hW
  obtain ⟨p, q, hA0, hV, rfl, hfz, hnd⟩ := hW
  have hA : DataW.TrodAll enc Try.prog W 0 (fun _ => true) true Try.f6.params.toList args.toList ds p := hA0
  rw [Try.params6] at hA hval hsz
  obtain ⟨v0, vs0, d0, ds0, p0, q0, hargs, rfl, rfl, h0, r0⟩ := trodAll_cons hA
  obtain ⟨rfl, rfl, rfl⟩ := trodAll_nil r0
  obtain rfl : args = #[v0] := by cases args; simp_all
  obtain ⟨rfl, rfl⟩ := trodVars_none hV
  have k0 := h0
  have lt0 : ∀ x ∈ p0, x.block < W.heap.size := by obtain ⟨m, hm⟩ := k0; exact DataW.trod_lt m _ _ _ hm
  have y0 := sized_mem hsz 0 (t := 22) (d := d0) rfl rfl
  have hv0 := hval 0 22 v0 rfl rfl
  clear hA0 hval0 hsz0 hsz hval
  have hc5 : Try.prog.cellsOf 5 = 1 := by kernel_rfl
  have hb5 : Try.prog.bytesOf 5 = 1 := by kernel_rfl
  have hbyte : ∀ row, Sh Try.prog 3 5 row → ∃ x : Nat, row = brow x ∧ x < 256 := fun row hr => by
    obtain ⟨z, rfl, hz⟩ := sh_int Try.underlying5 hr
    have h1 : 0 ≤ z ∧ z < 256 := u8_wf hz
    obtain ⟨x, rfl⟩ := Int.eq_ofNat_of_zero_le h1.1
    exact ⟨x, rfl, by omega⟩
  obtain ⟨x0, t0, s0⟩ := arg_one (n := 4) (t := 22) (by kernel_rfl) (one_slice Try.underlying22 hv0) h0 y0
  obtain ⟨rows, e0, hrl, hrows⟩ := sh_slice Try.underlying22 s0
  obtain ⟨c, rfl, hc⟩ := rows_map fun row hr => hbyte row (hrows row hr)
  obtain rfl : x0 = .sl false (Try.prog.cellsOf 5) (c.map brow) := by simpa using e0
  rw [hc5] at t0
  rw [hb5, List.length_map] at hrl
  refine (law_calls (c2006 c hc (by omega) _) (vs := [v0]) rfl (fun i sv hi => ?_) (by simp [SV.rows, D.isOwn])).mono fun e W' ⟨he, bel⟩ => ?_
  · match i, hi with
    | 0, hi => cases hi; exact ⟨v0, rfl, t0⟩
  subst he
  exact ⟨_, rfl, _, _, _, [], _, [], hW', trodAll_mk1 (shut_bool Try.underlying4 _), (trodAll_cons_mk (Below.trod laidOut (by kernel_rfl) (of_decide_eq_true (by kernel_rfl)) k0 bel lt0) trodAll_mk0), rfl, bel.frame _, fun h => by cases h⟩
theorem over : Rows.fnFoldTwoRow.holds Try.pinned (OpenSpec.ofChange Rows.fnFoldTwoSpec) :=
  OpenClaim.holds_of_wide 6 Try.f6 rfl rfl rfl rfl rfl rfl rfl ⟨rfl, rfl, rfl, rfl, rfl⟩ rfl rfl rfl rfl rfl (by kernel_rfl) Try.func6 (by kernel_rfl)
    (of_decide_eq_true (by kernel_rfl)) (by unfold Func.isWrapper; first | (rw [if_pos (by decide +kernel)]; kernel_rfl) | (rw [if_neg (by decide +kernel)]; exact ⟨rfl, rfl⟩))
    (fun os started H enc _ => lifted os started H enc)
theorem proved : Rows.FnFoldTwoSaid := over
#print axioms proved
end Go.Proofs.Ytlphbpjejdhaoaa.fnFoldTwo
namespace Go.Proofs.Ytlphbpjejdhaoaa
/-- The statement, under a short name. -/
theorem fnFoldTwo_holds : Rows.FnFoldTwoSaid := fnFoldTwo.proved
end Go.Proofs.Ytlphbpjejdhaoaa
