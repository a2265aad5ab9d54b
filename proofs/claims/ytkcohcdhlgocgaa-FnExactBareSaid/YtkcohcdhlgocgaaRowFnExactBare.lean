/- The given statement on the law FnExactBare: for all arguments it answers true, and they read as before. No condition of its own. -/
import Derived.Test.YtkcohcdhlgocgaaRows
import Derived.Test.YtkcohcdhlgocgaaQFnExactBarex4
import Derived.Test.YtkcohcdhlgocgaaPureFnExactBare
import Derived.Test.YtkcohcdhlgocgaaOpen
import Derived.WalkKit
import Derived.ProofKit
import Derived.OpenShut
import Derived.ShutString
import Derived.ChangeOld
import Derived.Below
import Derived.SizedLaws
namespace Go.Proofs.Ytkcohcdhlgocgaa.fnExactBare
open Go.ChangeShapes Go.WideShapes Go.ChangeAt Go.RowKit Go.Proofs.Ytkcohcdhlgocgaa.QFnExactBare
open Go.ChangeMaps (open_string shut_string)
open Go.Proofs.YtkcohcdhlgocgaaW.PrintWords Go.Proofs.YtkcohcdhlgocgaaW.PrintLast Go.Proofs.YtkcohcdhlgocgaaOpen
set_option linter.unusedVariables false
theorem own : ownKnob Try.prog.godebug = none := by kernel_rfl
theorem laidOut : laidOutB Try.prog = true := by kernel_rfl
set_option maxRecDepth 100000 in
theorem el111 {H : Type} {enc : TypeId × Value → H} {W : World} : ∀ (cs : List Value) (d : DataW H) (p : List MemPlace), (∃ n, DataW.trod enc Try.prog W 0 (fun _ => true) true n 111 cs = some (d, p)) → cs.length = k111.sz → Light Try.prog 111 d → ∃ x : S111, k111.K W x cs ∧ Pure.ok111 x := by
  intro cs d p h hlen hl
  obtain ⟨e0, q0, g0, lg0⟩ := tr_struct Try.underlying111 h hl 0 _ rfl
  obtain ⟨a0, f0, w0⟩ := tr_int Try.underlying3 g0
  obtain ⟨e1, q1, g1, lg1⟩ := tr_struct Try.underlying111 h hl 1 _ rfl
  obtain ⟨a1, f1, w1⟩ := tr_int Try.underlying3 g1
  obtain ⟨e2, q2, g2, lg2⟩ := tr_struct Try.underlying111 h hl 2 _ rfl
  obtain ⟨a2, f2, w2⟩ := tr_int Try.underlying3 g2
  have hlen2 : cs.length = 3 := hlen
  obtain ⟨y0_, y1_, y2_, rfl⟩ := list3 hlen2
  obtain rfl := Option.some.inj f0
  obtain rfl := Option.some.inj f1
  obtain rfl := Option.some.inj f2
  exact ⟨⟨a0, a1, a2⟩, k111_mk W (⟨a0, a1, a2⟩ : S111) , ⟨w0, w1, w2⟩⟩
set_option maxHeartbeats 1000000 in
set_option maxRecDepth 100000 in
theorem lifted (os : Os) (started : os.Started) (H : Type) (enc : TypeId × Value → H) :
    ReturnsInHanded {} Try.checked os 12 .any (Rows.fnExactBareSpec.pre6 enc Try.prog Try.f12 Rows.fnExactBareRow.domain false) (Rows.fnExactBareSpec.post enc Try.prog Try.f12 false true false false) := by
  refine returnsInHanded_of_change_sized (C := Try.checked) own started (by kernel_rfl) Try.func12
    (ChangeSpec.witness6 (enc := enc) (C := Try.checked) false ⟨#[], #[.agg #[.int .i64 0, .int .i64 0, .int .i64 0, .int .i64 0, .int .i64 0, .int .i64 0, .int .i64 0, .int .i64 0, .slice none 0 0, .int .i64 0, .int .i64 0, .slice none 0 0, .slice none 0 0]], []⟩ 8 (by kernel_rfl) (by kernel_rfl) (by kernel_rfl) (by kernel_rfl)) ?_
  intro W base args ds gs before hval0 hW hcnd hsz0 _
  have hsz : (DataW.weightsEach Try.prog (Try.f12.params.toList ++ Rows.fnExactBareSpec.plain.varTypes Try.prog) (ds ++ gs)).all (· ≤ reachBytes) = true := hsz0
  have hval : ∀ (j : Nat) t v, Try.f12.params[j]? = some t → args[j]? = some v → Value.okWide Try.prog W .any base t v := hval0
  have hW' := hW
  obtain ⟨p, q, hA0, hV, rfl, hfz, hnd⟩ := hW
  have hA : DataW.TrodAll enc Try.prog W 0 (fun _ => true) true Try.f12.params.toList args.toList ds p := hA0
  rw [Try.params12] at hA hval hsz
  obtain ⟨v0, vs0, d0, ds0, p0, q0, hargs, rfl, rfl, h0, r0⟩ := trodAll_cons hA
  obtain ⟨rfl, rfl, rfl⟩ := trodAll_nil r0
  obtain rfl : args = #[v0] := by cases args; simp_all
  obtain ⟨rfl, rfl⟩ := trodVars_none hV
  have k0 := h0
  have lt0 : ∀ x ∈ p0, x.block < W.heap.size := by obtain ⟨m, hm⟩ := k0; exact DataW.trod_lt m _ _ _ hm
  obtain ⟨cs0, rfl, len0, g0⟩ := open_struct Try.underlying66 (hval 0 66 v0 rfl rfl) h0
  have lg0 : Light Try.prog 66 d0 := light_of_each hsz (j := 0) (t := 66) rfl rfl
  rw [show Try.prog.cellsOf 66 = 13 from by kernel_rfl] at len0
  obtain ⟨e0_0, q0_0, g0_0, lg0_0⟩ := tr_struct Try.underlying66 g0 lg0 0 _ rfl
  obtain ⟨a0_0, f0_0, w0_0⟩ := tr_int Try.underlying3 g0_0
  obtain ⟨e0_1, q0_1, g0_1, lg0_1⟩ := tr_struct Try.underlying66 g0 lg0 1 _ rfl
  obtain ⟨a0_1, f0_1, w0_1⟩ := tr_int Try.underlying3 g0_1
  obtain ⟨e0_2, q0_2, g0_2, lg0_2⟩ := tr_struct Try.underlying66 g0 lg0 2 _ rfl
  obtain ⟨a0_2, f0_2, w0_2⟩ := tr_int Try.underlying3 g0_2
  obtain ⟨e0_3, q0_3, g0_3, lg0_3⟩ := tr_struct Try.underlying66 g0 lg0 3 _ rfl
  obtain ⟨a0_3, f0_3, w0_3⟩ := tr_int Try.underlying3 g0_3
  obtain ⟨e0_4, q0_4, g0_4, lg0_4⟩ := tr_struct Try.underlying66 g0 lg0 4 _ rfl
  obtain ⟨a0_4, f0_4, w0_4⟩ := tr_int Try.underlying3 g0_4
  obtain ⟨e0_5, q0_5, g0_5, lg0_5⟩ := tr_struct Try.underlying66 g0 lg0 5 _ rfl
  obtain ⟨a0_5, f0_5, w0_5⟩ := tr_int Try.underlying3 g0_5
  obtain ⟨e0_6, q0_6, g0_6, lg0_6⟩ := tr_struct Try.underlying66 g0 lg0 6 _ rfl
  obtain ⟨a0_6, f0_6, w0_6⟩ := tr_int Try.underlying3 g0_6
  obtain ⟨e0_7, q0_7, g0_7, lg0_7⟩ := tr_struct Try.underlying66 g0 lg0 7 _ rfl
  obtain ⟨a0_7, f0_7, w0_7⟩ := tr_int Try.underlying3 g0_7
  obtain ⟨e0_8, q0_8, g0_8, lg0_8⟩ := tr_struct Try.underlying66 g0 lg0 8 _ rfl
  obtain ⟨A0_8, c0_8, l0_8, f0_8, hr0_8, hm0_8, hw0_8, hc0_8, hy0_8⟩ := tr_ints Try.underlying23 Try.underlying3 (by kernel_rfl) (by kernel_rfl : Try.prog.bytesOf 3 = 8) g0_8 lg0_8
  obtain ⟨e0_9, q0_9, g0_9, lg0_9⟩ := tr_struct Try.underlying66 g0 lg0 9 _ rfl
  obtain ⟨a0_9, f0_9, w0_9⟩ := tr_int Try.underlying3 g0_9
  obtain ⟨e0_10, q0_10, g0_10, lg0_10⟩ := tr_struct Try.underlying66 g0 lg0 10 _ rfl
  obtain ⟨a0_10, f0_10, w0_10⟩ := tr_int Try.underlying3 g0_10
  obtain ⟨e0_11, q0_11, g0_11, lg0_11⟩ := tr_struct Try.underlying66 g0 lg0 11 _ rfl
  obtain ⟨A0_11, c0_11, l0_11, f0_11, hr0_11, hm0_11, hw0_11, hc0_11, hy0_11⟩ := tr_slice k111 (Q := Pure.ok111) Try.underlying64 (show Try.prog.cellsOf 111 = k111.sz from (by kernel_rfl)) (by kernel_rfl : Try.prog.bytesOf 111 = 24) (fun cs d' p' => el111 cs d' p') g0_11 lg0_11
  obtain ⟨e0_12, q0_12, g0_12, lg0_12⟩ := tr_struct Try.underlying66 g0 lg0 12 _ rfl
  obtain ⟨A0_12, c0_12, l0_12, f0_12, hr0_12, hm0_12, hw0_12, hc0_12, hy0_12⟩ := tr_ints Try.underlying23 Try.underlying3 (by kernel_rfl) (by kernel_rfl : Try.prog.bytesOf 3 = 8) g0_12 lg0_12
  obtain ⟨c0_0_, c0_1_, c0_2_, c0_3_, c0_4_, c0_5_, c0_6_, c0_7_, c0_8_, c0_9_, c0_10_, c0_11_, c0_12_, rfl⟩ := list13 len0
  obtain rfl := Option.some.inj f0_0
  obtain rfl := Option.some.inj f0_1
  obtain rfl := Option.some.inj f0_2
  obtain rfl := Option.some.inj f0_3
  obtain rfl := Option.some.inj f0_4
  obtain rfl := Option.some.inj f0_5
  obtain rfl := Option.some.inj f0_6
  obtain rfl := Option.some.inj f0_7
  obtain rfl := Option.some.inj f0_8
  obtain rfl := Option.some.inj f0_9
  obtain rfl := Option.some.inj f0_10
  obtain rfl := Option.some.inj f0_11
  obtain rfl := Option.some.inj f0_12
  clear hA0 hval0 hsz0
  obtain ⟨k, hp⟩ := Pure.FnExactBare a0_0 a0_1 a0_2 a0_3 a0_4 a0_5 a0_6 a0_7 l0_8 a0_9 a0_10 l0_11 l0_12 w0_0 w0_1 w0_2 w0_3 w0_4 w0_5 w0_6 w0_7 hm0_8 hy0_8 hw0_8 w0_9 w0_10 hm0_11 hy0_11 hw0_11 hm0_12 hy0_12 hw0_12
  refine (QFnExactBare.laws_FnExactBare.calls k a0_0 a0_1 a0_2 a0_3 a0_4 a0_5 a0_6 a0_7 A0_8 c0_8 l0_8 a0_9 a0_10 A0_11 c0_11 l0_11 A0_12 c0_12 l0_12 true W (Kd.C_of_reads (d := (0 : Int)) (h1 := fun _ => rfl) hr0_8) hc0_8 hr0_11 hc0_11 (Kd.C_of_reads (d := (0 : Int)) (h1 := fun _ => rfl) hr0_12) hc0_12 hp).mono fun e W' ⟨he, bel0⟩ => ?_
  have bel : Below W.heap.size W W' := bel0
  subst he
  exact ⟨_, rfl, _, _, _, [], _, [], hW', trodAll_mk1 (shut_bool Try.underlying4 _), (trodAll_cons_mk (Below.trod laidOut (by kernel_rfl) (of_decide_eq_true (by kernel_rfl)) k0 bel lt0) trodAll_mk0), rfl, bel.frame _, fun h => by cases h⟩
theorem over : Rows.fnExactBareRow.holds Try.pinned (OpenSpec.ofChange Rows.fnExactBareSpec) :=
  OpenClaim.holds_of_wide 12 Try.f12 rfl rfl rfl rfl rfl rfl rfl ⟨rfl, rfl, rfl, rfl, rfl⟩ rfl rfl rfl rfl rfl (by kernel_rfl) Try.func12 (by kernel_rfl)
    (of_decide_eq_true (by kernel_rfl)) (by unfold Func.isWrapper; first | (rw [if_pos (by decide +kernel)]; kernel_rfl) | (rw [if_neg (by decide +kernel)]; exact ⟨rfl, rfl⟩))
    (fun os started H enc _ => lifted os started H enc)
theorem proved : Rows.FnExactBareSaid := over
end Go.Proofs.Ytkcohcdhlgocgaa.fnExactBare
namespace Go.Proofs.Ytkcohcdhlgocgaa
/-- The row, under a short name, for the claim. -/
theorem fnExactBare_holds : Rows.FnExactBareSaid := fnExactBare.proved
end Go.Proofs.Ytkcohcdhlgocgaa
