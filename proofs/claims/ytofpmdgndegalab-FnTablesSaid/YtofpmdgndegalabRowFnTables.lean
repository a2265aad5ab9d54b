/- The given statement on the law FnTables: for all arguments it answers true, and they read as before. No condition of its own. -/
import Derived.Test.YtofpmdgndegalabRows
import Derived.Test.YtofpmdgndegalabQFnTablesx16
import Derived.Test.YtofpmdgndegalabPureFnTables
import Derived.Test.YtofpmdgndegalabOpenFnTables
import Derived.WalkKit
import Derived.ProofKit
import Derived.OpenShut
import Derived.ShutString
import Derived.ChangeOld
import Derived.Below
import Derived.SizedLaws
namespace Go.Proofs.Ytofpmdgndegalab.fnTables
open Go.ChangeShapes Go.WideShapes Go.ChangeAt Go.RowKit Go.Proofs.Ytofpmdgndegalab.QFnTables
open Go.ChangeMaps (open_string shut_string)
open Go.Proofs.YtofpmdgndegalabW.PrintWords Go.Proofs.YtofpmdgndegalabW.PrintLast Go.Proofs.YtofpmdgndegalabOpen
set_option linter.unusedVariables false
theorem own : ownKnob Try.prog.godebug = none := by kernel_rfl
theorem laidOut : laidOutB Try.prog = true := by kernel_rfl
set_option maxHeartbeats 1000000 in
set_option maxRecDepth 100000 in
theorem lifted (os : Os) (started : os.Started) (H : Type) (enc : TypeId × Value → H) :
    ReturnsInHanded {} Try.checked os 3 .any (Rows.fnTablesSpec.pre6 enc Try.prog Try.f3 Rows.fnTablesRow.domain false) (Rows.fnTablesSpec.post enc Try.prog Try.f3 false true false false) := by
  refine returnsInHanded_of_change_sized (C := Try.checked) own started (by kernel_rfl) Try.func3
    (ChangeSpec.witness6 (enc := enc) (C := Try.checked) false ⟨#[], #[.slice none 0 0], []⟩ 8 (by kernel_rfl) (by kernel_rfl) (by kernel_rfl) (by kernel_rfl)) ?_
  intro W base args ds gs before hval0 hW hcnd hsz0 _
  have hsz : (DataW.weightsEach Try.prog (Try.f3.params.toList ++ Rows.fnTablesSpec.plain.varTypes Try.prog) (ds ++ gs)).all (· ≤ reachBytes) = true := hsz0
  have hval : ∀ (j : Nat) t v, Try.f3.params[j]? = some t → args[j]? = some v → Value.okWide Try.prog W .any base t v := hval0
  have hW' := hW
  obtain ⟨p, q, hA0, hV, rfl, hfz, hnd⟩ := hW
  have hA : DataW.TrodAll enc Try.prog W 0 (fun _ => true) true Try.f3.params.toList args.toList ds p := hA0
  rw [Try.params3] at hA hval hsz
  obtain ⟨v0, vs0, d0, ds0, p0, q0, hargs, rfl, rfl, h0, r0⟩ := trodAll_cons hA
  obtain ⟨rfl, rfl, rfl⟩ := trodAll_nil r0
  obtain rfl : args = #[v0] := by cases args; simp_all
  obtain ⟨rfl, rfl⟩ := trodVars_none hV
  have k0 := h0
  have lt0 : ∀ x ∈ p0, x.block < W.heap.size := by obtain ⟨m, hm⟩ := k0; exact DataW.trod_lt m _ _ _ hm
  obtain ⟨A0, len0, c0, rfl⟩ := okWide_slice Try.underlying22 (hval 0 22 v0 rfl rfl)
  have lg0 : Light Try.prog 22 d0 := light_of_each hsz (j := 0) (t := 22) rfl rfl
  have g0 : ∃ n, DataW.trod enc Try.prog W 0 (fun _ => true) true n 22 ((([Value.slice A0 len0 c0] : List Value).drop 0).take 1) = some (d0, p0) := by obtain ⟨fu, hfu⟩ := h0; exact ⟨fu, by simpa [Value.cells] using hfu⟩
  obtain ⟨A0, c0, l0, f0, hr0, hm0, hw0, hc0, hy0⟩ := tr_ints Try.underlying22 Try.underlying5 (by kernel_rfl) (by kernel_rfl : Try.prog.bytesOf 5 = 1) g0 lg0
  have fx0 := Option.some.inj f0
  obtain ⟨rfl, rfl, rfl⟩ := Value.slice.inj fx0
  clear hA0 hval0 hsz0
  obtain ⟨k, hp⟩ := Pure.FnTables l0 hm0 hy0 hw0
  refine (QFnTables.laws_FnTables.calls k A0 c0 l0 true W (Kd.C_of_reads (d := (0 : Int)) (h1 := fun _ => rfl) hr0) hc0 hp).mono fun e W' ⟨he, bel0⟩ => ?_
  have bel : Below W.heap.size W W' := bel0
  subst he
  exact ⟨_, rfl, _, _, _, [], _, [], hW', trodAll_mk1 (shut_bool Try.underlying4 _), (trodAll_cons_mk (Below.trod laidOut (by kernel_rfl) (of_decide_eq_true (by kernel_rfl)) k0 bel lt0) trodAll_mk0), rfl, bel.frame _, fun h => by cases h⟩
theorem over : Rows.fnTablesRow.holds Try.pinned (OpenSpec.ofChange Rows.fnTablesSpec) :=
  OpenClaim.holds_of_wide 3 Try.f3 rfl rfl rfl rfl rfl rfl rfl ⟨rfl, rfl, rfl, rfl, rfl⟩ rfl rfl rfl rfl rfl (by kernel_rfl) Try.func3 (by kernel_rfl)
    (of_decide_eq_true (by kernel_rfl)) (by unfold Func.isWrapper; first | (rw [if_pos (by decide +kernel)]; kernel_rfl) | (rw [if_neg (by decide +kernel)]; exact ⟨rfl, rfl⟩))
    (fun os started H enc _ => lifted os started H enc)
theorem proved : Rows.FnTablesSaid := over
end Go.Proofs.Ytofpmdgndegalab.fnTables
namespace Go.Proofs.Ytofpmdgndegalab
/-- The row, under a short name, for the claim. -/
theorem fnTables_holds : Rows.FnTablesSaid := fnTables.proved
end Go.Proofs.Ytofpmdgndegalab
