/- The given statement on the law FnExactNodeOk: for all arguments it answers true, and they read as before. No condition of its own. -/
import Derived.Test.YtnloeihhimcblaaRows
import Derived.Test.YtnloeihhimcblaaQFnExactNodeOkx14
import Derived.Test.YtnloeihhimcblaaPureFnExactNodeOk
import Derived.Test.YtnloeihhimcblaaOpenFnExactNodeOk
import Derived.WalkKit
import Derived.ProofKit
import Derived.OpenShut
import Derived.ShutString
import Derived.ChangeOld
import Derived.Below
import Derived.SizedLaws
namespace Go.Proofs.Ytnloeihhimcblaa.fnExactNodeOk
open Go.ChangeShapes Go.WideShapes Go.ChangeAt Go.RowKit Go.Proofs.Ytnloeihhimcblaa.QFnExactNodeOk
open Go.ChangeMaps (open_string shut_string)
open Go.Proofs.YtnloeihhimcblaaW.PrintWords Go.Proofs.YtnloeihhimcblaaW.PrintLast Go.Proofs.YtnloeihhimcblaaOpen
set_option linter.unusedVariables false
theorem own : ownKnob Try.prog.godebug = none := by kernel_rfl
theorem laidOut : laidOutB Try.prog = true := by kernel_rfl
set_option maxRecDepth 100000 in
theorem el118 {H : Type} {enc : TypeId × Value → H} {W : World} : ∀ (cs : List Value) (d : DataW H) (p : List MemPlace), (∃ n, DataW.trod enc Try.prog W 0 (fun _ => true) true n 118 cs = some (d, p)) → cs.length = k118.sz → Light Try.prog 118 d → ∃ x : S118, k118.K W x cs ∧ Pure.ok118 x := by
  intro cs d p h hlen hl
  obtain ⟨e0, q0, g0, lg0⟩ := tr_struct Try.underlying118 h hl 0 _ rfl
  obtain ⟨a0, f0, w0⟩ := tr_int Try.underlying3 g0
  obtain ⟨e1, q1, g1, lg1⟩ := tr_struct Try.underlying118 h hl 1 _ rfl
  obtain ⟨a1, f1, w1⟩ := tr_int Try.underlying3 g1
  obtain ⟨e2, q2, g2, lg2⟩ := tr_struct Try.underlying118 h hl 2 _ rfl
  obtain ⟨a2, f2, w2⟩ := tr_int Try.underlying3 g2
  have hlen2 : cs.length = 3 := hlen
  obtain ⟨y0_, y1_, y2_, rfl⟩ := list3 hlen2
  obtain rfl := Option.some.inj f0
  obtain rfl := Option.some.inj f1
  obtain rfl := Option.some.inj f2
  exact ⟨⟨a0, a1, a2⟩, k118_mk W (⟨a0, a1, a2⟩ : S118) , ⟨w0, w1, w2⟩⟩
set_option maxHeartbeats 1000000 in
set_option maxRecDepth 100000 in
theorem lifted (os : Os) (started : os.Started) (H : Type) (enc : TypeId × Value → H) :
    ReturnsInHanded {} Try.checked os 11 .any (Rows.fnExactNodeOkSpec.pre6 enc Try.prog Try.f11 Rows.fnExactNodeOkRow.domain false) (Rows.fnExactNodeOkSpec.post enc Try.prog Try.f11 false true false false) := by
  refine returnsInHanded_of_change_sized (C := Try.checked) own started (by kernel_rfl) Try.func11
    (ChangeSpec.witness6 (enc := enc) (C := Try.checked) false ⟨#[], #[.agg #[.int .i64 0, .int .i64 0, .int .i64 0, .int .i64 0, .int .i64 0, .int .i64 0], .agg #[.int .i64 0, .int .i64 0, .int .i64 0, .int .i64 0, .int .i64 0, .int .i64 0, .int .i64 0, .int .i64 0, .slice none 0 0, .int .i64 0, .int .i64 0, .slice none 0 0, .slice none 0 0]], []⟩ 8 (by kernel_rfl) (by kernel_rfl) (by kernel_rfl) (by kernel_rfl)) ?_
  intro W base args ds gs before hval0 hW hcnd hsz0 _
  have hsz : (DataW.weightsEach Try.prog (Try.f11.params.toList ++ Rows.fnExactNodeOkSpec.plain.varTypes Try.prog) (ds ++ gs)).all (· ≤ reachBytes) = true := hsz0
  have hval : ∀ (j : Nat) t v, Try.f11.params[j]? = some t → args[j]? = some v → Value.okWide Try.prog W .any base t v := hval0
  have hW' := hW
  obtain ⟨p, q, hA0, hV, rfl, hfz, hnd⟩ := hW
  have hA : DataW.TrodAll enc Try.prog W 0 (fun _ => true) true Try.f11.params.toList args.toList ds p := hA0
  rw [Try.params11] at hA hval hsz
  obtain ⟨v0, vs0, d0, ds0, p0, q0, hargs, rfl, rfl, h0, r0⟩ := trodAll_cons hA
  obtain ⟨v1, vs1, d1, ds1, p1, q1, rfl, rfl, rfl, h1, r1⟩ := trodAll_cons r0
  obtain ⟨rfl, rfl, rfl⟩ := trodAll_nil r1
  obtain rfl : args = #[v0, v1] := by cases args; simp_all
  obtain ⟨rfl, rfl⟩ := trodVars_none hV
  have k0 := h0
  have lt0 : ∀ x ∈ p0, x.block < W.heap.size := by obtain ⟨m, hm⟩ := k0; exact DataW.trod_lt m _ _ _ hm
  obtain ⟨cs0, rfl, len0, g0⟩ := open_struct Try.underlying58 (hval 0 58 v0 rfl rfl) h0
  have lg0 : Light Try.prog 58 d0 := light_of_each hsz (j := 0) (t := 58) rfl rfl
  rw [show Try.prog.cellsOf 58 = 6 from by kernel_rfl] at len0
  obtain ⟨e0_0, q0_0, g0_0, lg0_0⟩ := tr_struct Try.underlying58 g0 lg0 0 _ rfl
  obtain ⟨a0_0, f0_0, w0_0⟩ := tr_int Try.underlying3 g0_0
  obtain ⟨e0_1, q0_1, g0_1, lg0_1⟩ := tr_struct Try.underlying58 g0 lg0 1 _ rfl
  obtain ⟨a0_1, f0_1, w0_1⟩ := tr_int Try.underlying3 g0_1
  obtain ⟨e0_2, q0_2, g0_2, lg0_2⟩ := tr_struct Try.underlying58 g0 lg0 2 _ rfl
  obtain ⟨a0_2, f0_2, w0_2⟩ := tr_int Try.underlying3 g0_2
  obtain ⟨e0_3, q0_3, g0_3, lg0_3⟩ := tr_struct Try.underlying58 g0 lg0 3 _ rfl
  obtain ⟨a0_3, f0_3, w0_3⟩ := tr_int Try.underlying3 g0_3
  obtain ⟨e0_4, q0_4, g0_4, lg0_4⟩ := tr_struct Try.underlying58 g0 lg0 4 _ rfl
  obtain ⟨a0_4, f0_4, w0_4⟩ := tr_int Try.underlying3 g0_4
  obtain ⟨e0_5, q0_5, g0_5, lg0_5⟩ := tr_struct Try.underlying58 g0 lg0 5 _ rfl
  obtain ⟨a0_5, f0_5, w0_5⟩ := tr_int Try.underlying3 g0_5
  obtain ⟨c0_0_, c0_1_, c0_2_, c0_3_, c0_4_, c0_5_, rfl⟩ := list6 len0
  obtain rfl := Option.some.inj f0_0
  obtain rfl := Option.some.inj f0_1
  obtain rfl := Option.some.inj f0_2
  obtain rfl := Option.some.inj f0_3
  obtain rfl := Option.some.inj f0_4
  obtain rfl := Option.some.inj f0_5
  have k1 := h1
  have lt1 : ∀ x ∈ p1, x.block < W.heap.size := by obtain ⟨m, hm⟩ := k1; exact DataW.trod_lt m _ _ _ hm
  obtain ⟨cs1, rfl, len1, g1⟩ := open_struct Try.underlying32 (hval 1 32 v1 rfl rfl) h1
  have lg1 : Light Try.prog 32 d1 := light_of_each hsz (j := 1) (t := 32) rfl rfl
  rw [show Try.prog.cellsOf 32 = 13 from by kernel_rfl] at len1
  obtain ⟨e1_0, q1_0, g1_0, lg1_0⟩ := tr_struct Try.underlying32 g1 lg1 0 _ rfl
  obtain ⟨a1_0, f1_0, w1_0⟩ := tr_int Try.underlying3 g1_0
  obtain ⟨e1_1, q1_1, g1_1, lg1_1⟩ := tr_struct Try.underlying32 g1 lg1 1 _ rfl
  obtain ⟨a1_1, f1_1, w1_1⟩ := tr_int Try.underlying3 g1_1
  obtain ⟨e1_2, q1_2, g1_2, lg1_2⟩ := tr_struct Try.underlying32 g1 lg1 2 _ rfl
  obtain ⟨a1_2, f1_2, w1_2⟩ := tr_int Try.underlying3 g1_2
  obtain ⟨e1_3, q1_3, g1_3, lg1_3⟩ := tr_struct Try.underlying32 g1 lg1 3 _ rfl
  obtain ⟨a1_3, f1_3, w1_3⟩ := tr_int Try.underlying3 g1_3
  obtain ⟨e1_4, q1_4, g1_4, lg1_4⟩ := tr_struct Try.underlying32 g1 lg1 4 _ rfl
  obtain ⟨a1_4, f1_4, w1_4⟩ := tr_int Try.underlying3 g1_4
  obtain ⟨e1_5, q1_5, g1_5, lg1_5⟩ := tr_struct Try.underlying32 g1 lg1 5 _ rfl
  obtain ⟨a1_5, f1_5, w1_5⟩ := tr_int Try.underlying3 g1_5
  obtain ⟨e1_6, q1_6, g1_6, lg1_6⟩ := tr_struct Try.underlying32 g1 lg1 6 _ rfl
  obtain ⟨a1_6, f1_6, w1_6⟩ := tr_int Try.underlying3 g1_6
  obtain ⟨e1_7, q1_7, g1_7, lg1_7⟩ := tr_struct Try.underlying32 g1 lg1 7 _ rfl
  obtain ⟨a1_7, f1_7, w1_7⟩ := tr_int Try.underlying3 g1_7
  obtain ⟨e1_8, q1_8, g1_8, lg1_8⟩ := tr_struct Try.underlying32 g1 lg1 8 _ rfl
  obtain ⟨A1_8, c1_8, l1_8, f1_8, hr1_8, hm1_8, hw1_8, hc1_8, hy1_8⟩ := tr_ints Try.underlying29 Try.underlying3 (by kernel_rfl) (by kernel_rfl : Try.prog.bytesOf 3 = 8) g1_8 lg1_8
  obtain ⟨e1_9, q1_9, g1_9, lg1_9⟩ := tr_struct Try.underlying32 g1 lg1 9 _ rfl
  obtain ⟨a1_9, f1_9, w1_9⟩ := tr_int Try.underlying3 g1_9
  obtain ⟨e1_10, q1_10, g1_10, lg1_10⟩ := tr_struct Try.underlying32 g1 lg1 10 _ rfl
  obtain ⟨a1_10, f1_10, w1_10⟩ := tr_int Try.underlying3 g1_10
  obtain ⟨e1_11, q1_11, g1_11, lg1_11⟩ := tr_struct Try.underlying32 g1 lg1 11 _ rfl
  obtain ⟨A1_11, c1_11, l1_11, f1_11, hr1_11, hm1_11, hw1_11, hc1_11, hy1_11⟩ := tr_slice k118 (Q := Pure.ok118) Try.underlying30 (show Try.prog.cellsOf 118 = k118.sz from (by kernel_rfl)) (by kernel_rfl : Try.prog.bytesOf 118 = 24) (fun cs d' p' => el118 cs d' p') g1_11 lg1_11
  obtain ⟨e1_12, q1_12, g1_12, lg1_12⟩ := tr_struct Try.underlying32 g1 lg1 12 _ rfl
  obtain ⟨A1_12, c1_12, l1_12, f1_12, hr1_12, hm1_12, hw1_12, hc1_12, hy1_12⟩ := tr_ints Try.underlying29 Try.underlying3 (by kernel_rfl) (by kernel_rfl : Try.prog.bytesOf 3 = 8) g1_12 lg1_12
  obtain ⟨c1_0_, c1_1_, c1_2_, c1_3_, c1_4_, c1_5_, c1_6_, c1_7_, c1_8_, c1_9_, c1_10_, c1_11_, c1_12_, rfl⟩ := list13 len1
  obtain rfl := Option.some.inj f1_0
  obtain rfl := Option.some.inj f1_1
  obtain rfl := Option.some.inj f1_2
  obtain rfl := Option.some.inj f1_3
  obtain rfl := Option.some.inj f1_4
  obtain rfl := Option.some.inj f1_5
  obtain rfl := Option.some.inj f1_6
  obtain rfl := Option.some.inj f1_7
  obtain rfl := Option.some.inj f1_8
  obtain rfl := Option.some.inj f1_9
  obtain rfl := Option.some.inj f1_10
  obtain rfl := Option.some.inj f1_11
  obtain rfl := Option.some.inj f1_12
  clear hA0 hval0 hsz0
  obtain ⟨k, hp⟩ := Pure.FnExactNodeOk a0_0 a0_1 a0_2 a0_3 a0_4 a0_5 a1_0 a1_1 a1_2 a1_3 a1_4 a1_5 a1_6 a1_7 l1_8 a1_9 a1_10 l1_11 l1_12 w0_0 w0_1 w0_2 w0_3 w0_4 w0_5 w1_0 w1_1 w1_2 w1_3 w1_4 w1_5 w1_6 w1_7 hm1_8 hy1_8 hw1_8 w1_9 w1_10 hm1_11 hy1_11 hw1_11 hm1_12 hy1_12 hw1_12
  refine (QFnExactNodeOk.laws_FnExactNodeOk.calls k a0_0 a0_1 a0_2 a0_3 a0_4 a0_5 a1_0 a1_1 a1_2 a1_3 a1_4 a1_5 a1_6 a1_7 A1_8 c1_8 l1_8 a1_9 a1_10 A1_11 c1_11 l1_11 A1_12 c1_12 l1_12 true W (Kd.C_of_reads (d := (0 : Int)) (h1 := fun _ => rfl) hr1_8) hc1_8 hr1_11 hc1_11 (Kd.C_of_reads (d := (0 : Int)) (h1 := fun _ => rfl) hr1_12) hc1_12 hp).mono fun e W' ⟨he, bel0⟩ => ?_
  have bel : Below W.heap.size W W' := bel0
  subst he
  exact ⟨_, rfl, _, _, _, [], _, [], hW', trodAll_mk1 (shut_bool Try.underlying4 _), (trodAll_cons_mk (Below.trod laidOut (by kernel_rfl) (of_decide_eq_true (by kernel_rfl)) k0 bel lt0) (trodAll_cons_mk (Below.trod laidOut (by kernel_rfl) (of_decide_eq_true (by kernel_rfl)) k1 bel lt1) trodAll_mk0)), rfl, bel.frame _, fun h => by cases h⟩
theorem over : Rows.fnExactNodeOkRow.holds Try.pinned (OpenSpec.ofChange Rows.fnExactNodeOkSpec) :=
  OpenClaim.holds_of_wide 11 Try.f11 rfl rfl rfl rfl rfl rfl rfl ⟨rfl, rfl, rfl, rfl, rfl⟩ rfl rfl rfl rfl rfl (by kernel_rfl) Try.func11 (by kernel_rfl)
    (of_decide_eq_true (by kernel_rfl)) (by unfold Func.isWrapper; first | (rw [if_pos (by decide +kernel)]; kernel_rfl) | (rw [if_neg (by decide +kernel)]; exact ⟨rfl, rfl⟩))
    (fun os started H enc _ => lifted os started H enc)
theorem proved : Rows.FnExactNodeOkSaid := over
end Go.Proofs.Ytnloeihhimcblaa.fnExactNodeOk
namespace Go.Proofs.Ytnloeihhimcblaa
/-- The row, under a short name, for the claim. -/
theorem fnExactNodeOk_holds : Rows.FnExactNodeOkSaid := fnExactNodeOk.proved
end Go.Proofs.Ytnloeihhimcblaa
