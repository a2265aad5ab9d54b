/- The given statement on the law FnExactTextOf: for all arguments it answers true, and they read as before. No condition of its own. -/
import Derived.ChangeAt
import Derived.JoinedAt
import Derived.JoinedOf
import Derived.SevenTiedAt
import Derived.Test.YtjnmefhohkffpaaDoorLaid
import Derived.Test.YtjnmefhohkffpaaDoorCards
import Derived.Test.YtjnmefhohkffpaaDoorTie
import Derived.Test.YtjnmefhohkffpaaDoorRows
import Derived.Test.YtjnmefhohkffpaaDoorQFnExactTextOfx5
import Derived.Test.YtjnmefhohkffpaaDoorPureFnExactTextOf
import Derived.Test.YtjnmefhohkffpaaDoorOpen
import Derived.WalkKit
import Derived.ProofKit
import Derived.OpenShut
import Derived.ShutString
import Derived.ChangeOld
import Derived.Below
import Derived.SizedLaws
namespace Go.Proofs.YtjnmefhohkffpaaDoor.fnExactTextOf
open Go.ChangeShapes Go.WideShapes Go.ChangeAt Go.RowKit Go.Proofs.YtjnmefhohkffpaaDoor.QFnExactTextOf
open Go.ChangeMaps (open_string shut_string)
open Go.Proofs.YtjnmefhohkffpaaDoorW.PrintWords Go.Proofs.YtjnmefhohkffpaaDoorW.PrintLast Go.Proofs.YtjnmefhohkffpaaDoorOpen
set_option linter.unusedVariables false
theorem own : ownKnob Tryd.prog.godebug = none := by kernel_rfl
theorem laidOut : laidOutB Tryd.prog = true := by kernel_rfl
set_option maxRecDepth 100000 in
theorem el119 {H : Type} {enc : TypeId × Value → H} {W : World} : ∀ (cs : List Value) (d : DataW H) (p : List MemPlace), (∃ n, DataW.trod enc Tryd.prog W 0 (fun _ => true) true n 119 cs = some (d, p)) → cs.length = k119.sz → Light Tryd.prog 119 d → ∃ x : S119, k119.K W x cs ∧ Pure.ok119 x := by
  intro cs d p h hlen hl
  obtain ⟨e0, q0, g0, lg0⟩ := tr_struct Tryd.underlying119 h hl 0 _ rfl
  obtain ⟨a0, f0, w0⟩ := tr_int Tryd.underlying3 g0
  obtain ⟨e1, q1, g1, lg1⟩ := tr_struct Tryd.underlying119 h hl 1 _ rfl
  obtain ⟨a1, f1, w1⟩ := tr_int Tryd.underlying3 g1
  obtain ⟨e2, q2, g2, lg2⟩ := tr_struct Tryd.underlying119 h hl 2 _ rfl
  obtain ⟨a2, f2, w2⟩ := tr_int Tryd.underlying3 g2
  have hlen2 : cs.length = 3 := hlen
  obtain ⟨y0_, y1_, y2_, rfl⟩ := list3 hlen2
  obtain rfl := Option.some.inj f0
  obtain rfl := Option.some.inj f1
  obtain rfl := Option.some.inj f2
  exact ⟨⟨a0, a1, a2⟩, k119_mk W (⟨a0, a1, a2⟩ : S119) , ⟨w0, w1, w2⟩⟩
set_option maxHeartbeats 1000000 in
set_option maxRecDepth 100000 in
theorem lifted (os : Os) (started : os.Started) (H : Type) (enc : TypeId × Value → H) :
    ReturnsInHanded {} Tryd.checked os 6 .any (fun w args => (Rows.fnExactTextOfSpec.pre enc Tryd.prog Tryd.f6 Rows.fnExactTextOfRow.domain false w args ∧ laidMet Tryd.prog YtjnmefhohkffpaaDoorLaid.laid3 w) ∧ sizedMet enc Tryd.prog Tryd.f6 (OpenSpec.ofChange Rows.fnExactTextOfSpec) false w args) (Rows.fnExactTextOfSpec.post enc Tryd.prog Tryd.f6 false true false false) := by
  refine returnsInHanded_of_change_and (C := Tryd.checked) (X := fun w _ => laidMet Tryd.prog YtjnmefhohkffpaaDoorLaid.laid3 w) (fun _ _ _ hh h => h.of_heap hh) own started (by kernel_rfl) Tryd.func6
    (ChangeSpec.witness_at (enc := enc) (C := Tryd.checked) (os := os) (X := fun w _ => laidMet Tryd.prog YtjnmefhohkffpaaDoorLaid.laid3 w) false (YtjnmefhohkffpaaDoorLaid.laidWorld os) #[.agg #[.int .i64 0, .int .i64 0, .int .i64 0, .int .i64 0, .int .i64 0, .int .i64 0, .int .i64 0, .int .i64 0, .slice none 0 0, .int .i64 0, .int .i64 0, .slice none 0 0, .slice none 0 0]] 8 rfl (by kernel_rfl) (by kernel_rfl) (by kernel_rfl) (by kernel_rfl) (by kernel_rfl) (YtjnmefhohkffpaaDoorLaid.laid3_met os _)) ?_
  intro W base args ds gs before hval0 hW hcnd hsz0 hL _
  have hsz : (DataW.weightsEach Tryd.prog (Tryd.f6.params.toList ++ Rows.fnExactTextOfSpec.plain.varTypes Tryd.prog) (ds ++ gs)).all (· ≤ reachBytes) = true := hsz0
  have hval : ∀ (j : Nat) t v, Tryd.f6.params[j]? = some t → args[j]? = some v → Value.okWide Tryd.prog W .any base t v := hval0
  have hW' := hW
  obtain ⟨p, q, hA0, hV, rfl, hfz, hnd⟩ := hW
  have hA : DataW.TrodAll enc Tryd.prog W 0 (fun _ => true) true Tryd.f6.params.toList args.toList ds p := hA0
  rw [Tryd.params6] at hA hval hsz
  obtain ⟨v0, vs0, d0, ds0, p0, q0, hargs, rfl, rfl, h0, r0⟩ := trodAll_cons hA
  obtain ⟨rfl, rfl, rfl⟩ := trodAll_nil r0
  obtain rfl : args = #[v0] := by cases args; simp_all
  obtain ⟨rfl, rfl⟩ := trodVars_none hV
  have k0 := h0
  have lt0 : ∀ x ∈ p0, x.block < W.heap.size := by obtain ⟨m, hm⟩ := k0; exact DataW.trod_lt m _ _ _ hm
  obtain ⟨cs0, rfl, len0, g0⟩ := open_struct Tryd.underlying40 (hval 0 40 v0 rfl rfl) h0
  have lg0 : Light Tryd.prog 40 d0 := light_of_each hsz (j := 0) (t := 40) rfl rfl
  rw [show Tryd.prog.cellsOf 40 = 13 from by kernel_rfl] at len0
  obtain ⟨e0_0, q0_0, g0_0, lg0_0⟩ := tr_struct Tryd.underlying40 g0 lg0 0 _ rfl
  obtain ⟨a0_0, f0_0, w0_0⟩ := tr_int Tryd.underlying3 g0_0
  obtain ⟨e0_1, q0_1, g0_1, lg0_1⟩ := tr_struct Tryd.underlying40 g0 lg0 1 _ rfl
  obtain ⟨a0_1, f0_1, w0_1⟩ := tr_int Tryd.underlying3 g0_1
  obtain ⟨e0_2, q0_2, g0_2, lg0_2⟩ := tr_struct Tryd.underlying40 g0 lg0 2 _ rfl
  obtain ⟨a0_2, f0_2, w0_2⟩ := tr_int Tryd.underlying3 g0_2
  obtain ⟨e0_3, q0_3, g0_3, lg0_3⟩ := tr_struct Tryd.underlying40 g0 lg0 3 _ rfl
  obtain ⟨a0_3, f0_3, w0_3⟩ := tr_int Tryd.underlying3 g0_3
  obtain ⟨e0_4, q0_4, g0_4, lg0_4⟩ := tr_struct Tryd.underlying40 g0 lg0 4 _ rfl
  obtain ⟨a0_4, f0_4, w0_4⟩ := tr_int Tryd.underlying3 g0_4
  obtain ⟨e0_5, q0_5, g0_5, lg0_5⟩ := tr_struct Tryd.underlying40 g0 lg0 5 _ rfl
  obtain ⟨a0_5, f0_5, w0_5⟩ := tr_int Tryd.underlying3 g0_5
  obtain ⟨e0_6, q0_6, g0_6, lg0_6⟩ := tr_struct Tryd.underlying40 g0 lg0 6 _ rfl
  obtain ⟨a0_6, f0_6, w0_6⟩ := tr_int Tryd.underlying3 g0_6
  obtain ⟨e0_7, q0_7, g0_7, lg0_7⟩ := tr_struct Tryd.underlying40 g0 lg0 7 _ rfl
  obtain ⟨a0_7, f0_7, w0_7⟩ := tr_int Tryd.underlying3 g0_7
  obtain ⟨e0_8, q0_8, g0_8, lg0_8⟩ := tr_struct Tryd.underlying40 g0 lg0 8 _ rfl
  obtain ⟨A0_8, c0_8, l0_8, f0_8, hr0_8, hm0_8, hw0_8, hc0_8, hy0_8⟩ := tr_ints Tryd.underlying37 Tryd.underlying3 (by kernel_rfl) (by kernel_rfl : Tryd.prog.bytesOf 3 = 8) g0_8 lg0_8
  obtain ⟨e0_9, q0_9, g0_9, lg0_9⟩ := tr_struct Tryd.underlying40 g0 lg0 9 _ rfl
  obtain ⟨a0_9, f0_9, w0_9⟩ := tr_int Tryd.underlying3 g0_9
  obtain ⟨e0_10, q0_10, g0_10, lg0_10⟩ := tr_struct Tryd.underlying40 g0 lg0 10 _ rfl
  obtain ⟨a0_10, f0_10, w0_10⟩ := tr_int Tryd.underlying3 g0_10
  obtain ⟨e0_11, q0_11, g0_11, lg0_11⟩ := tr_struct Tryd.underlying40 g0 lg0 11 _ rfl
  obtain ⟨A0_11, c0_11, l0_11, f0_11, hr0_11, hm0_11, hw0_11, hc0_11, hy0_11⟩ := tr_slice k119 (Q := Pure.ok119) Tryd.underlying38 (show Tryd.prog.cellsOf 119 = k119.sz from (by kernel_rfl)) (by kernel_rfl : Tryd.prog.bytesOf 119 = 24) (fun cs d' p' => el119 cs d' p') g0_11 lg0_11
  obtain ⟨e0_12, q0_12, g0_12, lg0_12⟩ := tr_struct Tryd.underlying40 g0 lg0 12 _ rfl
  obtain ⟨A0_12, c0_12, l0_12, f0_12, hr0_12, hm0_12, hw0_12, hc0_12, hy0_12⟩ := tr_ints Tryd.underlying37 Tryd.underlying3 (by kernel_rfl) (by kernel_rfl : Tryd.prog.bytesOf 3 = 8) g0_12 lg0_12
  obtain ⟨c0_0_, c0_1_, c0_2_, c0_3_, c0_4_, c0_5_, c0_6_, c0_7_, c0_8_, c0_9_, c0_10_, c0_11_, c0_12_, rfl⟩ := list13 len0
  obtain rfl := Option.some.inj f0_0
  obtain rfl := Option.some.inj f0_1
  obtain rfl := Option.some.inj f0_2
  obtain rfl := Option.some.inj f0_3
  obtain rfl := Option.some.inj f0_4
  obtain rfl := Option.some.inj f0_5
  obtain rfl := Option.some.inj f0_6
  obtain rfl := Option.some.inj f0_7
  obtain rfl := Option.some.inj f0_8
  obtain rfl := Option.some.inj f0_9
  obtain rfl := Option.some.inj f0_10
  obtain rfl := Option.some.inj f0_11
  obtain rfl := Option.some.inj f0_12
  clear hA0 hval0 hsz0
  obtain ⟨k, hp⟩ := Pure.FnExactTextOf a0_0 a0_1 a0_2 a0_3 a0_4 a0_5 a0_6 a0_7 l0_8 a0_9 a0_10 l0_11 l0_12 w0_0 w0_1 w0_2 w0_3 w0_4 w0_5 w0_6 w0_7 hm0_8 hy0_8 hw0_8 w0_9 w0_10 hm0_11 hy0_11 hw0_11 hm0_12 hy0_12 hw0_12
  refine (QFnExactTextOf.laws_FnExactTextOf.calls k a0_0 a0_1 a0_2 a0_3 a0_4 a0_5 a0_6 a0_7 A0_8 c0_8 l0_8 a0_9 a0_10 A0_11 c0_11 l0_11 A0_12 c0_12 l0_12 true W (Kd.C_of_reads (d := (0 : Int)) (h1 := fun _ => rfl) hr0_8) hc0_8 hr0_11 hc0_11 (Kd.C_of_reads (d := (0 : Int)) (h1 := fun _ => rfl) hr0_12) hc0_12 hp (YtjnmefhohkffpaaDoorLaid.tab3 hL)).mono fun e W' ⟨he, bel0⟩ => ?_
  have bel : Below W.heap.size W W' := bel0
  subst he
  exact ⟨_, rfl, _, _, _, [], _, [], hW', trodAll_mk1 (shut_bool Tryd.underlying4 _), (trodAll_cons_mk (Below.trod laidOut (by kernel_rfl) (of_decide_eq_true (by kernel_rfl)) k0 bel lt0) trodAll_mk0), rfl, bel.frame _, fun h => by cases h⟩
theorem over : Rows.fnExactTextOfRow.holds Tryd.pinned (OpenSpec.ofChange Rows.fnExactTextOfSpec) :=
  OpenClaim.holds_of_wide 6 Tryd.f6 rfl rfl rfl rfl rfl rfl rfl ⟨rfl, rfl, rfl, rfl, rfl⟩ rfl rfl rfl rfl rfl (by kernel_rfl) Tryd.func6 (by kernel_rfl)
    (of_decide_eq_true (by kernel_rfl)) (by unfold Func.isWrapper; first | (rw [if_pos (by decide +kernel)]; kernel_rfl) | (rw [if_neg (by decide +kernel)]; exact ⟨rfl, rfl⟩))
    (fun os started H enc _ => lifted os started H enc)
theorem proved : Rows.FnExactTextOfSaid := over
set_option maxRecDepth 100000 in
theorem carded : Rows.FnExactTextOfCardSaid :=
  Claim7.holds_tied_plain_at .later [] [.data, .data, .data] true (true, "5985017c55eafbd397d4e6d4283757772c10d882d894df3501c6395e5cd68671") true
    over (fun _ h => by cases h) (by kernel_rfl) (fun _ h => by cases h) fnExactTextOf_row_tie rfl ⟨rfl, rfl⟩ (by kernel_rfl) rfl
    (fun f fn hf hfn => by
      obtain rfl : f = 6 := Option.some.inj ((show Tryd.prog.funcNamed "loop.example/g00499/laws.FnExactTextOf" = some 6 by kernel_rfl).symm.trans hf) |>.symm
      obtain rfl : fn = Tryd.f6 := (Option.some.inj (Tryd.func6.symm.trans hfn)).symm
      exact ⟨by kernel_rfl, fun j t ht => by
        rw [Tryd.params6] at ht
        rcases j with _ | j
        · have h3 : t = 40 := by simpa using ht.symm
          subst h3
          exact (show Tryd.prog.wantsStandIn 40 = false by kernel_rfl)
        · simp at ht⟩)
    (by kernel_rfl)
end Go.Proofs.YtjnmefhohkffpaaDoor.fnExactTextOf
namespace Go.Proofs.YtjnmefhohkffpaaDoor
/-- The row, under a short name, for the claim. -/
theorem fnExactTextOf_holds : Rows.FnExactTextOfCardSaid := fnExactTextOf.carded
end Go.Proofs.YtjnmefhohkffpaaDoor
