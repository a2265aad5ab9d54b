/- The given statement on the law FnExactClear: for all arguments it answers true, and they read as before. No condition of its own. -/
import Derived.Test.YtnloeihhimcblaaRows
import Derived.Test.YtnloeihhimcblaaQFnExactClearx7
import Derived.Test.YtnloeihhimcblaaPureFnExactClear
import Derived.Test.YtnloeihhimcblaaOpenFnExactClear
import Derived.WalkKit
import Derived.ProofKit
import Derived.OpenShut
import Derived.ShutString
import Derived.ChangeOld
import Derived.Below
import Derived.SizedLaws
namespace Go.Proofs.Ytnloeihhimcblaa.fnExactClear
open Go.ChangeShapes Go.WideShapes Go.ChangeAt Go.RowKit Go.Proofs.Ytnloeihhimcblaa.QFnExactClear
open Go.ChangeMaps (open_string shut_string)
open Go.Proofs.YtnloeihhimcblaaW.PrintWords Go.Proofs.YtnloeihhimcblaaW.PrintLast Go.Proofs.YtnloeihhimcblaaOpen
set_option linter.unusedVariables false
theorem own : ownKnob Try.prog.godebug = none := by kernel_rfl
theorem laidOut : laidOutB Try.prog = true := by kernel_rfl
set_option maxRecDepth 100000 in
theorem el118 {H : Type} {enc : TypeId × Value → H} {W : World} : ∀ (cs : List Value) (d : DataW H) (p : List MemPlace), (∃ n, DataW.trod enc Try.prog W 0 (fun _ => true) true n 118 cs = some (d, p)) → cs.length = k118.sz → Light Try.prog 118 d → ∃ x : S118, k118.K W x cs ∧ Pure.ok118 x := by
  intro cs d p h hlen hl
  obtain ⟨e0, q0, g0, lg0⟩ := tr_struct Try.underlying118 h hl 0 _ rfl
  obtain ⟨a0, f0, w0⟩ := tr_int Try.underlying3 g0
  obtain ⟨e1, q1, g1, lg1⟩ := tr_struct Try.underlying118 h hl 1 _ rfl
  obtain ⟨a1, f1, w1⟩ := tr_int Try.underlying3 g1
  obtain ⟨e2, q2, g2, lg2⟩ := tr_struct Try.underlying118 h hl 2 _ rfl
  obtain ⟨a2, f2, w2⟩ := tr_int Try.underlying3 g2
  have hlen2 : cs.length = 3 := hlen
  obtain ⟨y0_, y1_, y2_, rfl⟩ := list3 hlen2
  obtain rfl := Option.some.inj f0
  obtain rfl := Option.some.inj f1
  obtain rfl := Option.some.inj f2
  exact ⟨⟨a0, a1, a2⟩, k118_mk W (⟨a0, a1, a2⟩ : S118) , ⟨w0, w1, w2⟩⟩
set_option maxRecDepth 100000 in
theorem el32 {H : Type} {enc : TypeId × Value → H} {W : World} : ∀ (cs : List Value) (d : DataW H) (p : List MemPlace), (∃ n, DataW.trod enc Try.prog W 0 (fun _ => true) true n 32 cs = some (d, p)) → cs.length = k32.sz → Light Try.prog 32 d → ∃ x : S32, k32.K W x cs ∧ Pure.ok32 x := by
  intro cs d p h hlen hl
  obtain ⟨e0, q0, g0, lg0⟩ := tr_struct Try.underlying32 h hl 0 _ rfl
  obtain ⟨a0, f0, w0⟩ := tr_int Try.underlying3 g0
  obtain ⟨e1, q1, g1, lg1⟩ := tr_struct Try.underlying32 h hl 1 _ rfl
  obtain ⟨a1, f1, w1⟩ := tr_int Try.underlying3 g1
  obtain ⟨e2, q2, g2, lg2⟩ := tr_struct Try.underlying32 h hl 2 _ rfl
  obtain ⟨a2, f2, w2⟩ := tr_int Try.underlying3 g2
  obtain ⟨e3, q3, g3, lg3⟩ := tr_struct Try.underlying32 h hl 3 _ rfl
  obtain ⟨a3, f3, w3⟩ := tr_int Try.underlying3 g3
  obtain ⟨e4, q4, g4, lg4⟩ := tr_struct Try.underlying32 h hl 4 _ rfl
  obtain ⟨a4, f4, w4⟩ := tr_int Try.underlying3 g4
  obtain ⟨e5, q5, g5, lg5⟩ := tr_struct Try.underlying32 h hl 5 _ rfl
  obtain ⟨a5, f5, w5⟩ := tr_int Try.underlying3 g5
  obtain ⟨e6, q6, g6, lg6⟩ := tr_struct Try.underlying32 h hl 6 _ rfl
  obtain ⟨a6, f6, w6⟩ := tr_int Try.underlying3 g6
  obtain ⟨e7, q7, g7, lg7⟩ := tr_struct Try.underlying32 h hl 7 _ rfl
  obtain ⟨a7, f7, w7⟩ := tr_int Try.underlying3 g7
  obtain ⟨e8, q8, g8, lg8⟩ := tr_struct Try.underlying32 h hl 8 _ rfl
  obtain ⟨A8, c8, l8, f8, hr8, hm8, hw8, hc8, hy8⟩ := tr_ints Try.underlying29 Try.underlying3 (by kernel_rfl) (by kernel_rfl : Try.prog.bytesOf 3 = 8) g8 lg8
  obtain ⟨e9, q9, g9, lg9⟩ := tr_struct Try.underlying32 h hl 9 _ rfl
  obtain ⟨a9, f9, w9⟩ := tr_int Try.underlying3 g9
  obtain ⟨e10, q10, g10, lg10⟩ := tr_struct Try.underlying32 h hl 10 _ rfl
  obtain ⟨a10, f10, w10⟩ := tr_int Try.underlying3 g10
  obtain ⟨e11, q11, g11, lg11⟩ := tr_struct Try.underlying32 h hl 11 _ rfl
  obtain ⟨A11, c11, l11, f11, hr11, hm11, hw11, hc11, hy11⟩ := tr_slice k118 (Q := Pure.ok118) Try.underlying30 (show Try.prog.cellsOf 118 = k118.sz from (by kernel_rfl)) (by kernel_rfl : Try.prog.bytesOf 118 = 24) (fun cs d' p' => el118 cs d' p') g11 lg11
  obtain ⟨e12, q12, g12, lg12⟩ := tr_struct Try.underlying32 h hl 12 _ rfl
  obtain ⟨A12, c12, l12, f12, hr12, hm12, hw12, hc12, hy12⟩ := tr_ints Try.underlying29 Try.underlying3 (by kernel_rfl) (by kernel_rfl : Try.prog.bytesOf 3 = 8) g12 lg12
  have hlen2 : cs.length = 13 := hlen
  obtain ⟨y0_, y1_, y2_, y3_, y4_, y5_, y6_, y7_, y8_, y9_, y10_, y11_, y12_, rfl⟩ := list13 hlen2
  obtain rfl := Option.some.inj f0
  obtain rfl := Option.some.inj f1
  obtain rfl := Option.some.inj f2
  obtain rfl := Option.some.inj f3
  obtain rfl := Option.some.inj f4
  obtain rfl := Option.some.inj f5
  obtain rfl := Option.some.inj f6
  obtain rfl := Option.some.inj f7
  obtain rfl := Option.some.inj f8
  obtain rfl := Option.some.inj f9
  obtain rfl := Option.some.inj f10
  obtain rfl := Option.some.inj f11
  obtain rfl := Option.some.inj f12
  exact ⟨⟨a0, a1, a2, a3, a4, a5, a6, a7, l8, a9, a10, l11, l12⟩, k32_mk W (⟨a0, a1, a2, a3, a4, a5, a6, a7, l8, a9, a10, l11, l12⟩ : S32) hc8 (Kd.C_of_reads (d := (0 : Int)) (h1 := fun _ => rfl) hr8) hc11 hr11 hc12 (Kd.C_of_reads (d := (0 : Int)) (h1 := fun _ => rfl) hr12), ⟨w0, w1, w2, w3, w4, w5, w6, w7, ⟨hm8, hy8, hw8⟩, w9, w10, ⟨hm11, hy11, hw11⟩, ⟨hm12, hy12, hw12⟩⟩⟩
set_option maxHeartbeats 1000000 in
set_option maxRecDepth 100000 in
theorem lifted (os : Os) (started : os.Started) (H : Type) (enc : TypeId × Value → H) :
    ReturnsInHanded {} Try.checked os 10 .any (Rows.fnExactClearSpec.pre6 enc Try.prog Try.f10 Rows.fnExactClearRow.domain false) (Rows.fnExactClearSpec.post enc Try.prog Try.f10 false true false false) := by
  refine returnsInHanded_of_change_sized (C := Try.checked) own started (by kernel_rfl) Try.func10
    (ChangeSpec.witness6 (enc := enc) (C := Try.checked) false ⟨#[], #[.slice none 0 0, .int .i64 0, .int .i64 0], []⟩ 8 (by kernel_rfl) (by kernel_rfl) (by kernel_rfl) (by kernel_rfl)) ?_
  intro W base args ds gs before hval0 hW hcnd hsz0 _
  have hsz : (DataW.weightsEach Try.prog (Try.f10.params.toList ++ Rows.fnExactClearSpec.plain.varTypes Try.prog) (ds ++ gs)).all (· ≤ reachBytes) = true := hsz0
  have hval : ∀ (j : Nat) t v, Try.f10.params[j]? = some t → args[j]? = some v → Value.okWide Try.prog W .any base t v := hval0
  have hW' := hW
  obtain ⟨p, q, hA0, hV, rfl, hfz, hnd⟩ := hW
  have hA : DataW.TrodAll enc Try.prog W 0 (fun _ => true) true Try.f10.params.toList args.toList ds p := hA0
  rw [Try.params10] at hA hval hsz
  obtain ⟨v0, vs0, d0, ds0, p0, q0, hargs, rfl, rfl, h0, r0⟩ := trodAll_cons hA
  obtain ⟨v1, vs1, d1, ds1, p1, q1, rfl, rfl, rfl, h1, r1⟩ := trodAll_cons r0
  obtain ⟨v2, vs2, d2, ds2, p2, q2, rfl, rfl, rfl, h2, r2⟩ := trodAll_cons r1
  obtain ⟨rfl, rfl, rfl⟩ := trodAll_nil r2
  obtain rfl : args = #[v0, v1, v2] := by cases args; simp_all
  obtain ⟨rfl, rfl⟩ := trodVars_none hV
  have k0 := h0
  have lt0 : ∀ x ∈ p0, x.block < W.heap.size := by obtain ⟨m, hm⟩ := k0; exact DataW.trod_lt m _ _ _ hm
  obtain ⟨A0, len0, c0, rfl⟩ := okWide_slice Try.underlying22 (hval 0 22 v0 rfl rfl)
  have lg0 : Light Try.prog 22 d0 := light_of_each hsz (j := 0) (t := 22) rfl rfl
  have g0 : ∃ n, DataW.trod enc Try.prog W 0 (fun _ => true) true n 22 ((([Value.slice A0 len0 c0] : List Value).drop 0).take 1) = some (d0, p0) := by obtain ⟨fu, hfu⟩ := h0; exact ⟨fu, by simpa [Value.cells] using hfu⟩
  obtain ⟨A0, c0, l0, f0, hr0, hm0, hw0, hc0, hy0⟩ := tr_slice k32 (Q := Pure.ok32) Try.underlying22 (show Try.prog.cellsOf 32 = k32.sz from (by kernel_rfl)) (by kernel_rfl : Try.prog.bytesOf 32 = 152) (fun cs d' p' => el32 cs d' p') g0 lg0
  have fx0 := Option.some.inj f0
  obtain ⟨rfl, rfl, rfl⟩ := Value.slice.inj fx0
  have k1 := h1
  have lt1 : ∀ x ∈ p1, x.block < W.heap.size := by obtain ⟨m, hm⟩ := k1; exact DataW.trod_lt m _ _ _ hm
  obtain ⟨a1, rfl, rfl, rfl, w1⟩ := open_int Try.underlying3 (hval 1 3 v1 rfl rfl) h1
  have k2 := h2
  have lt2 : ∀ x ∈ p2, x.block < W.heap.size := by obtain ⟨m, hm⟩ := k2; exact DataW.trod_lt m _ _ _ hm
  obtain ⟨a2, rfl, rfl, rfl, w2⟩ := open_int Try.underlying3 (hval 2 3 v2 rfl rfl) h2
  clear hA0 hval0 hsz0
  obtain ⟨k, hp⟩ := Pure.FnExactClear l0 a1 a2 hm0 hy0 hw0 w1 w2
  refine (QFnExactClear.laws_FnExactClear.calls k A0 c0 l0 a1 a2 true W hr0 hc0 hp).mono fun e W' ⟨he, bel0⟩ => ?_
  have bel : Below W.heap.size W W' := bel0
  subst he
  exact ⟨_, rfl, _, _, _, [], _, [], hW', trodAll_mk1 (shut_bool Try.underlying4 _), (trodAll_cons_mk (Below.trod laidOut (by kernel_rfl) (of_decide_eq_true (by kernel_rfl)) k0 bel lt0) (trodAll_cons_mk (Below.trod laidOut (by kernel_rfl) (of_decide_eq_true (by kernel_rfl)) k1 bel lt1) (trodAll_cons_mk (Below.trod laidOut (by kernel_rfl) (of_decide_eq_true (by kernel_rfl)) k2 bel lt2) trodAll_mk0))), rfl, bel.frame _, fun h => by cases h⟩
theorem over : Rows.fnExactClearRow.holds Try.pinned (OpenSpec.ofChange Rows.fnExactClearSpec) :=
  OpenClaim.holds_of_wide 10 Try.f10 rfl rfl rfl rfl rfl rfl rfl ⟨rfl, rfl, rfl, rfl, rfl⟩ rfl rfl rfl rfl rfl (by kernel_rfl) Try.func10 (by kernel_rfl)
    (of_decide_eq_true (by kernel_rfl)) (by unfold Func.isWrapper; first | (rw [if_pos (by decide +kernel)]; kernel_rfl) | (rw [if_neg (by decide +kernel)]; exact ⟨rfl, rfl⟩))
    (fun os started H enc _ => lifted os started H enc)
theorem proved : Rows.FnExactClearSaid := over
end Go.Proofs.Ytnloeihhimcblaa.fnExactClear
namespace Go.Proofs.Ytnloeihhimcblaa
/-- The row, under a short name, for the claim. -/
theorem fnExactClear_holds : Rows.FnExactClearSaid := fnExactClear.proved
end Go.Proofs.Ytnloeihhimcblaa
