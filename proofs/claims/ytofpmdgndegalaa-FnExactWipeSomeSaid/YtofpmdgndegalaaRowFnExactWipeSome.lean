/- The given statement on the law FnExactWipeSome: for all arguments it answers true, and they read as before. No condition of its own. -/
import Derived.Test.YtofpmdgndegalaaRows
import Derived.Test.YtofpmdgndegalaaQFnExactWipeSomex12
import Derived.Test.YtofpmdgndegalaaPureFnExactWipeSome
import Derived.Test.YtofpmdgndegalaaOpenFnExactWipeSome
import Derived.WalkKit
import Derived.ProofKit
import Derived.OpenShut
import Derived.ShutString
import Derived.ChangeOld
import Derived.Below
import Derived.SizedLaws
namespace Go.Proofs.Ytofpmdgndegalaa.fnExactWipeSome
open Go.ChangeShapes Go.WideShapes Go.ChangeAt Go.RowKit Go.Proofs.Ytofpmdgndegalaa.QFnExactWipeSome
open Go.ChangeMaps (open_string shut_string)
open Go.Proofs.YtofpmdgndegalaaW.PrintWords Go.Proofs.YtofpmdgndegalaaW.PrintLast Go.Proofs.YtofpmdgndegalaaOpen
set_option linter.unusedVariables false
theorem own : ownKnob Try.prog.godebug = none := by kernel_rfl
theorem laidOut : laidOutB Try.prog = true := by kernel_rfl
set_option maxHeartbeats 1000000 in
set_option maxRecDepth 100000 in
theorem lifted (os : Os) (started : os.Started) (H : Type) (enc : TypeId × Value → H) :
    ReturnsInHanded {} Try.checked os 3 .any (Rows.fnExactWipeSomeSpec.pre6 enc Try.prog Try.f3 Rows.fnExactWipeSomeRow.domain false) (Rows.fnExactWipeSomeSpec.post enc Try.prog Try.f3 false true false false) := by
  refine returnsInHanded_of_change_sized (C := Try.checked) own started (by kernel_rfl) Try.func3
    (ChangeSpec.witness6 (enc := enc) (C := Try.checked) false ⟨#[], #[.agg #[.int .i64 0, .int .i64 0, .int .i64 0, .int .i64 0, .int .i64 0, .int .i64 0], .agg #[.slice none 0 0, .slice none 0 0, .slice none 0 0], .int .i64 0, .int .i64 0], []⟩ 8 (by kernel_rfl) (by kernel_rfl) (by kernel_rfl) (by kernel_rfl)) ?_
  intro W base args ds gs before hval0 hW hcnd hsz0 _
  have hsz : (DataW.weightsEach Try.prog (Try.f3.params.toList ++ Rows.fnExactWipeSomeSpec.plain.varTypes Try.prog) (ds ++ gs)).all (· ≤ reachBytes) = true := hsz0
  have hval : ∀ (j : Nat) t v, Try.f3.params[j]? = some t → args[j]? = some v → Value.okWide Try.prog W .any base t v := hval0
  have hW' := hW
  obtain ⟨p, q, hA0, hV, rfl, hfz, hnd⟩ := hW
  have hA : DataW.TrodAll enc Try.prog W 0 (fun _ => true) true Try.f3.params.toList args.toList ds p := hA0
  rw [Try.params3] at hA hval hsz
  obtain ⟨v0, vs0, d0, ds0, p0, q0, hargs, rfl, rfl, h0, r0⟩ := trodAll_cons hA
  obtain ⟨v1, vs1, d1, ds1, p1, q1, rfl, rfl, rfl, h1, r1⟩ := trodAll_cons r0
  obtain ⟨v2, vs2, d2, ds2, p2, q2, rfl, rfl, rfl, h2, r2⟩ := trodAll_cons r1
  obtain ⟨v3, vs3, d3, ds3, p3, q3, rfl, rfl, rfl, h3, r3⟩ := trodAll_cons r2
  obtain ⟨rfl, rfl, rfl⟩ := trodAll_nil r3
  obtain rfl : args = #[v0, v1, v2, v3] := by cases args; simp_all
  obtain ⟨rfl, rfl⟩ := trodVars_none hV
  have k0 := h0
  have lt0 : ∀ x ∈ p0, x.block < W.heap.size := by obtain ⟨m, hm⟩ := k0; exact DataW.trod_lt m _ _ _ hm
  obtain ⟨cs0, rfl, len0, g0⟩ := open_struct Try.underlying23 (hval 0 23 v0 rfl rfl) h0
  have lg0 : Light Try.prog 23 d0 := light_of_each hsz (j := 0) (t := 23) rfl rfl
  rw [show Try.prog.cellsOf 23 = 6 from by kernel_rfl] at len0
  obtain ⟨e0_0, q0_0, g0_0, lg0_0⟩ := tr_struct Try.underlying23 g0 lg0 0 _ rfl
  obtain ⟨a0_0, f0_0, w0_0⟩ := tr_int Try.underlying3 g0_0
  obtain ⟨e0_1, q0_1, g0_1, lg0_1⟩ := tr_struct Try.underlying23 g0 lg0 1 _ rfl
  obtain ⟨a0_1, f0_1, w0_1⟩ := tr_int Try.underlying3 g0_1
  obtain ⟨e0_2, q0_2, g0_2, lg0_2⟩ := tr_struct Try.underlying23 g0 lg0 2 _ rfl
  obtain ⟨a0_2, f0_2, w0_2⟩ := tr_int Try.underlying3 g0_2
  obtain ⟨e0_3, q0_3, g0_3, lg0_3⟩ := tr_struct Try.underlying23 g0 lg0 3 _ rfl
  obtain ⟨a0_3, f0_3, w0_3⟩ := tr_int Try.underlying3 g0_3
  obtain ⟨e0_4, q0_4, g0_4, lg0_4⟩ := tr_struct Try.underlying23 g0 lg0 4 _ rfl
  obtain ⟨a0_4, f0_4, w0_4⟩ := tr_int Try.underlying3 g0_4
  obtain ⟨e0_5, q0_5, g0_5, lg0_5⟩ := tr_struct Try.underlying23 g0 lg0 5 _ rfl
  obtain ⟨a0_5, f0_5, w0_5⟩ := tr_int Try.underlying3 g0_5
  obtain ⟨c0_0_, c0_1_, c0_2_, c0_3_, c0_4_, c0_5_, rfl⟩ := list6 len0
  obtain rfl := Option.some.inj f0_0
  obtain rfl := Option.some.inj f0_1
  obtain rfl := Option.some.inj f0_2
  obtain rfl := Option.some.inj f0_3
  obtain rfl := Option.some.inj f0_4
  obtain rfl := Option.some.inj f0_5
  have k1 := h1
  have lt1 : ∀ x ∈ p1, x.block < W.heap.size := by obtain ⟨m, hm⟩ := k1; exact DataW.trod_lt m _ _ _ hm
  obtain ⟨cs1, rfl, len1, g1⟩ := open_struct Try.underlying27 (hval 1 27 v1 rfl rfl) h1
  have lg1 : Light Try.prog 27 d1 := light_of_each hsz (j := 1) (t := 27) rfl rfl
  rw [show Try.prog.cellsOf 27 = 3 from by kernel_rfl] at len1
  obtain ⟨e1_0, q1_0, g1_0, lg1_0⟩ := tr_struct Try.underlying27 g1 lg1 0 _ rfl
  obtain ⟨A1_0, c1_0, l1_0, f1_0, hr1_0, hm1_0, hw1_0, hc1_0, hy1_0⟩ := tr_ints Try.underlying24 Try.underlying5 (by kernel_rfl) (by kernel_rfl : Try.prog.bytesOf 5 = 1) g1_0 lg1_0
  obtain ⟨e1_1, q1_1, g1_1, lg1_1⟩ := tr_struct Try.underlying27 g1 lg1 1 _ rfl
  obtain ⟨A1_1, c1_1, l1_1, f1_1, hr1_1, hm1_1, hw1_1, hc1_1, hy1_1⟩ := tr_ints Try.underlying25 Try.underlying3 (by kernel_rfl) (by kernel_rfl : Try.prog.bytesOf 3 = 8) g1_1 lg1_1
  obtain ⟨e1_2, q1_2, g1_2, lg1_2⟩ := tr_struct Try.underlying27 g1 lg1 2 _ rfl
  obtain ⟨A1_2, c1_2, l1_2, f1_2, hr1_2, hm1_2, hw1_2, hc1_2, hy1_2⟩ := tr_ints Try.underlying25 Try.underlying3 (by kernel_rfl) (by kernel_rfl : Try.prog.bytesOf 3 = 8) g1_2 lg1_2
  obtain ⟨c1_0_, c1_1_, c1_2_, rfl⟩ := list3 len1
  obtain rfl := Option.some.inj f1_0
  obtain rfl := Option.some.inj f1_1
  obtain rfl := Option.some.inj f1_2
  have k2 := h2
  have lt2 : ∀ x ∈ p2, x.block < W.heap.size := by obtain ⟨m, hm⟩ := k2; exact DataW.trod_lt m _ _ _ hm
  obtain ⟨a2, rfl, rfl, rfl, w2⟩ := open_int Try.underlying3 (hval 2 3 v2 rfl rfl) h2
  have k3 := h3
  have lt3 : ∀ x ∈ p3, x.block < W.heap.size := by obtain ⟨m, hm⟩ := k3; exact DataW.trod_lt m _ _ _ hm
  obtain ⟨a3, rfl, rfl, rfl, w3⟩ := open_int Try.underlying3 (hval 3 3 v3 rfl rfl) h3
  clear hA0 hval0 hsz0
  obtain ⟨k, hp⟩ := Pure.FnExactWipeSome a0_0 a0_1 a0_2 a0_3 a0_4 a0_5 l1_0 l1_1 l1_2 a2 a3 w0_0 w0_1 w0_2 w0_3 w0_4 w0_5 hm1_0 hy1_0 hw1_0 hm1_1 hy1_1 hw1_1 hm1_2 hy1_2 hw1_2 w2 w3
  refine (QFnExactWipeSome.laws_FnExactWipeSome.calls k a0_0 a0_1 a0_2 a0_3 a0_4 a0_5 A1_0 c1_0 l1_0 A1_1 c1_1 l1_1 A1_2 c1_2 l1_2 a2 a3 true W (Kd.C_of_reads (d := (0 : Int)) (h1 := fun _ => rfl) hr1_0) hc1_0 (Kd.C_of_reads (d := (0 : Int)) (h1 := fun _ => rfl) hr1_1) hc1_1 (Kd.C_of_reads (d := (0 : Int)) (h1 := fun _ => rfl) hr1_2) hc1_2 hp).mono fun e W' ⟨he, bel0⟩ => ?_
  have bel : Below W.heap.size W W' := bel0
  subst he
  exact ⟨_, rfl, _, _, _, [], _, [], hW', trodAll_mk1 (shut_bool Try.underlying4 _), (trodAll_cons_mk (Below.trod laidOut (by kernel_rfl) (of_decide_eq_true (by kernel_rfl)) k0 bel lt0) (trodAll_cons_mk (Below.trod laidOut (by kernel_rfl) (of_decide_eq_true (by kernel_rfl)) k1 bel lt1) (trodAll_cons_mk (Below.trod laidOut (by kernel_rfl) (of_decide_eq_true (by kernel_rfl)) k2 bel lt2) (trodAll_cons_mk (Below.trod laidOut (by kernel_rfl) (of_decide_eq_true (by kernel_rfl)) k3 bel lt3) trodAll_mk0)))), rfl, bel.frame _, fun h => by cases h⟩
theorem over : Rows.fnExactWipeSomeRow.holds Try.pinned (OpenSpec.ofChange Rows.fnExactWipeSomeSpec) :=
  OpenClaim.holds_of_wide 3 Try.f3 rfl rfl rfl rfl rfl rfl rfl ⟨rfl, rfl, rfl, rfl, rfl⟩ rfl rfl rfl rfl rfl (by kernel_rfl) Try.func3 (by kernel_rfl)
    (of_decide_eq_true (by kernel_rfl)) (by unfold Func.isWrapper; first | (rw [if_pos (by decide +kernel)]; kernel_rfl) | (rw [if_neg (by decide +kernel)]; exact ⟨rfl, rfl⟩))
    (fun os started H enc _ => lifted os started H enc)
theorem proved : Rows.FnExactWipeSomeSaid := over
end Go.Proofs.Ytofpmdgndegalaa.fnExactWipeSome
namespace Go.Proofs.Ytofpmdgndegalaa
/-- The row, under a short name, for the claim. -/
theorem fnExactWipeSome_holds : Rows.FnExactWipeSomeSaid := fnExactWipeSome.proved
end Go.Proofs.Ytofpmdgndegalaa
