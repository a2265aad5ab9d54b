/- The given statement on the law FnExactLetGo: for all arguments it answers true, and they read as before. No condition of its own. -/
import Derived.Test.YtnloeihhimcblaaRows
import Derived.Test.YtnloeihhimcblaaQFnExactLetGox6
import Derived.Test.YtnloeihhimcblaaPureFnExactLetGo
import Derived.Test.YtnloeihhimcblaaOpen
import Derived.WalkKit
import Derived.ProofKit
import Derived.OpenShut
import Derived.ShutString
import Derived.ChangeOld
import Derived.Below
import Derived.SizedLaws
namespace Go.Proofs.Ytnloeihhimcblaa.fnExactLetGo
open Go.ChangeShapes Go.WideShapes Go.ChangeAt Go.RowKit Go.Proofs.Ytnloeihhimcblaa.QFnExactLetGo
open Go.ChangeMaps (open_string shut_string)
open Go.Proofs.YtnloeihhimcblaaW.PrintWords Go.Proofs.YtnloeihhimcblaaW.PrintLast Go.Proofs.YtnloeihhimcblaaOpen
set_option linter.unusedVariables false
theorem own : ownKnob Try.prog.godebug = none := by kernel_rfl
theorem laidOut : laidOutB Try.prog = true := by kernel_rfl
set_option maxHeartbeats 1000000 in
set_option maxRecDepth 100000 in
theorem lifted (os : Os) (started : os.Started) (H : Type) (enc : TypeId × Value → H) :
    ReturnsInHanded {} Try.checked os 7 .any (Rows.fnExactLetGoSpec.pre6 enc Try.prog Try.f7 Rows.fnExactLetGoRow.domain false) (Rows.fnExactLetGoSpec.post enc Try.prog Try.f7 false true false false) := by
  refine returnsInHanded_of_change_sized (C := Try.checked) own started (by kernel_rfl) Try.func7
    (ChangeSpec.witness6 (enc := enc) (C := Try.checked) false ⟨#[], #[.agg #[.slice none 0 0, .slice none 0 0, .slice none 0 0], .int .i64 0], []⟩ 8 (by kernel_rfl) (by kernel_rfl) (by kernel_rfl) (by kernel_rfl)) ?_
  intro W base args ds gs before hval0 hW hcnd hsz0 _
  have hsz : (DataW.weightsEach Try.prog (Try.f7.params.toList ++ Rows.fnExactLetGoSpec.plain.varTypes Try.prog) (ds ++ gs)).all (· ≤ reachBytes) = true := hsz0
  have hval : ∀ (j : Nat) t v, Try.f7.params[j]? = some t → args[j]? = some v → Value.okWide Try.prog W .any base t v := hval0
  have hW' := hW
  obtain ⟨p, q, hA0, hV, rfl, hfz, hnd⟩ := hW
  have hA : DataW.TrodAll enc Try.prog W 0 (fun _ => true) true Try.f7.params.toList args.toList ds p := hA0
  rw [Try.params7] at hA hval hsz
  obtain ⟨v0, vs0, d0, ds0, p0, q0, hargs, rfl, rfl, h0, r0⟩ := trodAll_cons hA
  obtain ⟨v1, vs1, d1, ds1, p1, q1, rfl, rfl, rfl, h1, r1⟩ := trodAll_cons r0
  obtain ⟨rfl, rfl, rfl⟩ := trodAll_nil r1
  obtain rfl : args = #[v0, v1] := by cases args; simp_all
  obtain ⟨rfl, rfl⟩ := trodVars_none hV
  have k0 := h0
  have lt0 : ∀ x ∈ p0, x.block < W.heap.size := by obtain ⟨m, hm⟩ := k0; exact DataW.trod_lt m _ _ _ hm
  obtain ⟨cs0, rfl, len0, g0⟩ := open_struct Try.underlying43 (hval 0 43 v0 rfl rfl) h0
  have lg0 : Light Try.prog 43 d0 := light_of_each hsz (j := 0) (t := 43) rfl rfl
  rw [show Try.prog.cellsOf 43 = 3 from by kernel_rfl] at len0
  obtain ⟨e0_0, q0_0, g0_0, lg0_0⟩ := tr_struct Try.underlying43 g0 lg0 0 _ rfl
  obtain ⟨A0_0, c0_0, l0_0, f0_0, hr0_0, hm0_0, hw0_0, hc0_0, hy0_0⟩ := tr_ints Try.underlying41 Try.underlying5 (by kernel_rfl) (by kernel_rfl : Try.prog.bytesOf 5 = 1) g0_0 lg0_0
  obtain ⟨e0_1, q0_1, g0_1, lg0_1⟩ := tr_struct Try.underlying43 g0 lg0 1 _ rfl
  obtain ⟨A0_1, c0_1, l0_1, f0_1, hr0_1, hm0_1, hw0_1, hc0_1, hy0_1⟩ := tr_ints Try.underlying29 Try.underlying3 (by kernel_rfl) (by kernel_rfl : Try.prog.bytesOf 3 = 8) g0_1 lg0_1
  obtain ⟨e0_2, q0_2, g0_2, lg0_2⟩ := tr_struct Try.underlying43 g0 lg0 2 _ rfl
  obtain ⟨A0_2, c0_2, l0_2, f0_2, hr0_2, hm0_2, hw0_2, hc0_2, hy0_2⟩ := tr_ints Try.underlying29 Try.underlying3 (by kernel_rfl) (by kernel_rfl : Try.prog.bytesOf 3 = 8) g0_2 lg0_2
  obtain ⟨c0_0_, c0_1_, c0_2_, rfl⟩ := list3 len0
  obtain rfl := Option.some.inj f0_0
  obtain rfl := Option.some.inj f0_1
  obtain rfl := Option.some.inj f0_2
  have k1 := h1
  have lt1 : ∀ x ∈ p1, x.block < W.heap.size := by obtain ⟨m, hm⟩ := k1; exact DataW.trod_lt m _ _ _ hm
  obtain ⟨a1, rfl, rfl, rfl, w1⟩ := open_int Try.underlying3 (hval 1 3 v1 rfl rfl) h1
  clear hA0 hval0 hsz0
  obtain ⟨k, hp⟩ := Pure.FnExactLetGo l0_0 l0_1 l0_2 a1 hm0_0 hy0_0 hw0_0 hm0_1 hy0_1 hw0_1 hm0_2 hy0_2 hw0_2 w1
  refine (QFnExactLetGo.laws_FnExactLetGo.calls k A0_0 c0_0 l0_0 A0_1 c0_1 l0_1 A0_2 c0_2 l0_2 a1 true W (Kd.C_of_reads (d := (0 : Int)) (h1 := fun _ => rfl) hr0_0) hc0_0 (Kd.C_of_reads (d := (0 : Int)) (h1 := fun _ => rfl) hr0_1) hc0_1 (Kd.C_of_reads (d := (0 : Int)) (h1 := fun _ => rfl) hr0_2) hc0_2 hp).mono fun e W' ⟨he, bel0⟩ => ?_
  have bel : Below W.heap.size W W' := bel0
  subst he
  exact ⟨_, rfl, _, _, _, [], _, [], hW', trodAll_mk1 (shut_bool Try.underlying4 _), (trodAll_cons_mk (Below.trod laidOut (by kernel_rfl) (of_decide_eq_true (by kernel_rfl)) k0 bel lt0) (trodAll_cons_mk (Below.trod laidOut (by kernel_rfl) (of_decide_eq_true (by kernel_rfl)) k1 bel lt1) trodAll_mk0)), rfl, bel.frame _, fun h => by cases h⟩
theorem over : Rows.fnExactLetGoRow.holds Try.pinned (OpenSpec.ofChange Rows.fnExactLetGoSpec) :=
  OpenClaim.holds_of_wide 7 Try.f7 rfl rfl rfl rfl rfl rfl rfl ⟨rfl, rfl, rfl, rfl, rfl⟩ rfl rfl rfl rfl rfl (by kernel_rfl) Try.func7 (by kernel_rfl)
    (of_decide_eq_true (by kernel_rfl)) (by unfold Func.isWrapper; first | (rw [if_pos (by decide +kernel)]; kernel_rfl) | (rw [if_neg (by decide +kernel)]; exact ⟨rfl, rfl⟩))
    (fun os started H enc _ => lifted os started H enc)
theorem proved : Rows.FnExactLetGoSaid := over
end Go.Proofs.Ytnloeihhimcblaa.fnExactLetGo
namespace Go.Proofs.Ytnloeihhimcblaa
/-- The row, under a short name, for the claim. -/
theorem fnExactLetGo_holds : Rows.FnExactLetGoSaid := fnExactLetGo.proved
end Go.Proofs.Ytnloeihhimcblaa
