/- The statement FnExactFoldAll holds: at every input the law's function returns true, and each argument reads behind the call as it read before. No condition. -/
import Derived.Test.YtpdfdngekdaliaaRows
import Derived.Test.YtpdfdngekdaliaaH3
import Derived.WalkKit
import Derived.ProofKit
import Derived.OpenShut
import Derived.ShutString
import Derived.ChangeOld
import Derived.Below
import Derived.SizedLaws
namespace Go.Proofs.Ytpdfdngekdaliaa.fnExactFoldAll
open Go Go.AI Go.Proofs Go.ChangeShapes Go.WideShapes Go.ChangeAt Go.RowKit
open Go.ChangeMaps (open_string shut_string)
set_option linter.unusedVariables false
set_option maxRecDepth 100000
theorem own : ownKnob Try.prog.godebug = none := by kernel_rfl
theorem laidOut : laidOutB Try.prog = true := by kernel_rfl
set_option maxHeartbeats 4000000 in
theorem lifted (os : Os) (started : os.Started) (H : Type) (enc : TypeId × Value → H) :
    ReturnsInHanded {} Try.checked os 3 .any (Rows.fnExactFoldAllSpec.pre6 enc Try.prog Try.f3 Rows.fnExactFoldAllRow.domain false) (Rows.fnExactFoldAllSpec.post enc Try.prog Try.f3 false true false false) := by
  refine returnsInHanded_of_change_sized (C := Try.checked) own started (by kernel_rfl) Try.func3
    (ChangeSpec.witness6 (enc := enc) (C := Try.checked) false ⟨#[], #[.slice none 0 0], []⟩ 8 (by kernel_rfl) (by kernel_rfl) (by kernel_rfl) (by kernel_rfl)) ?_
  intro W base args ds gs before hval0 hW hcnd hsz0 _
  have hsz : (DataW.weightsEach Try.prog (Try.f3.params.toList ++ Rows.fnExactFoldAllSpec.plain.varTypes Try.prog) (ds ++ gs)).all (· ≤ reachBytes) = true := hsz0
  have hval : ∀ (j : Nat) t v, Try.f3.params[j]? = some t → args[j]? = some v → Value.okWide Try.prog W .any base t v := hval0
  have hW' := hW
  obtain ⟨p, q, hA0, hV, rfl, hfz, hnd⟩ := hW
  have hA : DataW.TrodAll enc Try.prog W 0 (fun _ => true) true Try.f3.params.toList args.toList ds p := hA0
  rw [Try.params3] at hA hval hsz
  obtain ⟨v0, vs0, d0, ds0, p0, q0, hargs, rfl, rfl, h0, r0⟩ := trodAll_cons hA
  obtain ⟨rfl, rfl, rfl⟩ := trodAll_nil r0
  obtain rfl : args = #[v0] := by cases args; simp_all
  obtain ⟨rfl, rfl⟩ := trodVars_none hV
  have k0 := h0
  have lt0 : ∀ x ∈ p0, x.block < W.heap.size := by obtain ⟨m, hm⟩ := k0; exact DataW.trod_lt m _ _ _ hm
  have y0 := sized_mem hsz 0 (t := 22) (d := d0) rfl rfl
  have hv0 := hval 0 22 v0 rfl rfl
  clear hA0 hval0 hsz0 hsz hval
  have hc104 : Try.prog.cellsOf 59 = 3 := by kernel_rfl
  have hb104 : Try.prog.bytesOf 59 = 32 := by kernel_rfl
  have hc37 : Try.prog.cellsOf 33 = 3 := by kernel_rfl
  have hb37 : Try.prog.bytesOf 33 = 48 := by kernel_rfl
  have hins : ∀ row, Sh Try.prog 2 59 row → ∃ x : I, row = ic x ∧ x.s.size ≤ 140737488355328 := fun row hr => by
    obtain ⟨c1, c2, rfl, g1, c3, c4, rfl, g2, c5, c6, rfl, g3, rfl⟩ := sh_struct Try.underlying59 hr
    obtain ⟨op, rfl, _⟩ := sh_int Try.underlying3 g1
    obtain ⟨n, rfl, _⟩ := sh_int Try.underlying3 g2
    obtain ⟨s, rfl, hs⟩ := sh_string Try.underlying9 g3
    exact ⟨⟨op, n, s⟩, rfl, hs⟩
  have hfun : ∀ row, Sh Try.prog 4 33 row → ∃ f : F, row = fc f ∧ sizedF f := fun row hr => by
    obtain ⟨c1, c2, rfl, g1, c3, c4, rfl, g2, c5, c6, rfl, g3, rfl⟩ := sh_struct Try.underlying33 hr
    obtain ⟨nm, rfl, hnm⟩ := sh_string Try.underlying9 g1
    obtain ⟨wk, rfl⟩ := sh_bool Try.underlying4 g2
    obtain ⟨rows, rfl, hrl, hrows⟩ := sh_slice Try.underlying31 g3
    obtain ⟨l, rfl, hl⟩ := rows_map fun row hr => hins row (hrows row hr)
    rw [hb104, List.length_map] at hrl
    exact ⟨⟨nm, wk, l⟩, by rw [hc104]; rfl, hnm, by show l.length ≤ _; omega, hl⟩
  obtain ⟨x0, t0, s0⟩ := arg_one (n := 5) (t := 22) (by kernel_rfl) (one_slice Try.underlying22 hv0) h0 y0
  obtain ⟨rows, e0, hrl, hrows⟩ := sh_slice Try.underlying22 s0
  obtain ⟨u, rfl, hu⟩ := rows_map fun row hr => hfun row (hrows row hr)
  obtain rfl : x0 = .sl false (Try.prog.cellsOf 33) (u.map fc) := by simpa using e0
  rw [hc37] at t0
  rw [hb37, List.length_map] at hrl
  refine (law_calls (c1003 u (by omega) hu _) (vs := [v0]) rfl (fun i sv hi => ?_) (by simp [SV.rows, D.isOwn])).mono fun e W' ⟨he, bel⟩ => ?_
  · match i, hi with
    | 0, hi => cases hi; exact ⟨v0, rfl, t0⟩
  subst he
  exact ⟨_, rfl, _, _, _, [], _, [], hW', trodAll_mk1 (shut_bool Try.underlying4 _), (trodAll_cons_mk (Below.trod laidOut (by kernel_rfl) (of_decide_eq_true (by kernel_rfl)) k0 bel lt0) trodAll_mk0), rfl, bel.frame _, fun h => by cases h⟩
theorem over : Rows.fnExactFoldAllRow.holds Try.pinned (OpenSpec.ofChange Rows.fnExactFoldAllSpec) :=
  OpenClaim.holds_of_wide 3 Try.f3 rfl rfl rfl rfl rfl rfl rfl ⟨rfl, rfl, rfl, rfl, rfl⟩ rfl rfl rfl rfl rfl (by kernel_rfl) Try.func3 (by kernel_rfl)
    (of_decide_eq_true (by kernel_rfl)) (by unfold Func.isWrapper; first | (rw [if_pos (by decide +kernel)]; kernel_rfl) | (rw [if_neg (by decide +kernel)]; exact ⟨rfl, rfl⟩))
    (fun os started H enc _ => lifted os started H enc)
theorem proved : Rows.FnExactFoldAllSaid := over
#print axioms proved
end Go.Proofs.Ytpdfdngekdaliaa.fnExactFoldAll
namespace Go.Proofs.Ytpdfdngekdaliaa
/-- The statement, under a short name. -/
theorem fnExactFoldAll_holds : Rows.FnExactFoldAllSaid := fnExactFoldAll.proved
end Go.Proofs.Ytpdfdngekdaliaa
