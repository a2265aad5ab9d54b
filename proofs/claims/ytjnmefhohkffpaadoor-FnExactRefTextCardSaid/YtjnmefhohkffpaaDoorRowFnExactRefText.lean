/- The given statement on the law FnExactRefText: for all arguments it answers true, and they read as before. No condition of its own. -/
import Derived.ChangeAt
import Derived.JoinedAt
import Derived.JoinedOf
import Derived.SevenTiedAt
import Derived.Test.YtjnmefhohkffpaaDoorLaid
import Derived.Test.YtjnmefhohkffpaaDoorCards
import Derived.Test.YtjnmefhohkffpaaDoorTie
import Derived.Test.YtjnmefhohkffpaaDoorRows
import Derived.Test.YtjnmefhohkffpaaDoorQFnExactRefTextx2
import Derived.Test.YtjnmefhohkffpaaDoorPureFnExactRefText
import Derived.Test.YtjnmefhohkffpaaDoorOpen
import Derived.WalkKit
import Derived.ProofKit
import Derived.OpenShut
import Derived.ShutString
import Derived.ChangeOld
import Derived.Below
import Derived.SizedLaws
namespace Go.Proofs.YtjnmefhohkffpaaDoor.fnExactRefText
open Go.ChangeShapes Go.WideShapes Go.ChangeAt Go.RowKit Go.Proofs.YtjnmefhohkffpaaDoor.QFnExactRefText
open Go.ChangeMaps (open_string shut_string)
open Go.Proofs.YtjnmefhohkffpaaDoorW.PrintWords Go.Proofs.YtjnmefhohkffpaaDoorW.PrintLast Go.Proofs.YtjnmefhohkffpaaDoorOpen
set_option linter.unusedVariables false
theorem own : ownKnob Tryd.prog.godebug = none := by kernel_rfl
theorem laidOut : laidOutB Tryd.prog = true := by kernel_rfl
set_option maxHeartbeats 1000000 in
set_option maxRecDepth 100000 in
theorem lifted (os : Os) (started : os.Started) (H : Type) (enc : TypeId × Value → H) :
    ReturnsInHanded {} Tryd.checked os 5 .any (fun w args => (Rows.fnExactRefTextSpec.pre enc Tryd.prog Tryd.f5 Rows.fnExactRefTextRow.domain false w args ∧ laidMet Tryd.prog YtjnmefhohkffpaaDoorLaid.laid3 w) ∧ sizedMet enc Tryd.prog Tryd.f5 (OpenSpec.ofChange Rows.fnExactRefTextSpec) false w args) (Rows.fnExactRefTextSpec.post enc Tryd.prog Tryd.f5 false true false false) := by
  refine returnsInHanded_of_change_and (C := Tryd.checked) (X := fun w _ => laidMet Tryd.prog YtjnmefhohkffpaaDoorLaid.laid3 w) (fun _ _ _ hh h => h.of_heap hh) own started (by kernel_rfl) Tryd.func5
    (ChangeSpec.witness_at (enc := enc) (C := Tryd.checked) (os := os) (X := fun w _ => laidMet Tryd.prog YtjnmefhohkffpaaDoorLaid.laid3 w) false (YtjnmefhohkffpaaDoorLaid.laidWorld os) #[.agg #[.int .i64 0, .int .i64 0, .int .i64 0, .int .i64 0]] 8 rfl (by kernel_rfl) (by kernel_rfl) (by kernel_rfl) (by kernel_rfl) (by kernel_rfl) (YtjnmefhohkffpaaDoorLaid.laid3_met os _)) ?_
  intro W base args ds gs before hval0 hW hcnd hsz0 hL _
  have hsz : (DataW.weightsEach Tryd.prog (Tryd.f5.params.toList ++ Rows.fnExactRefTextSpec.plain.varTypes Tryd.prog) (ds ++ gs)).all (· ≤ reachBytes) = true := hsz0
  have hval : ∀ (j : Nat) t v, Tryd.f5.params[j]? = some t → args[j]? = some v → Value.okWide Tryd.prog W .any base t v := hval0
  have hW' := hW
  obtain ⟨p, q, hA0, hV, rfl, hfz, hnd⟩ := hW
  have hA : DataW.TrodAll enc Tryd.prog W 0 (fun _ => true) true Tryd.f5.params.toList args.toList ds p := hA0
  rw [Tryd.params5] at hA hval hsz
  obtain ⟨v0, vs0, d0, ds0, p0, q0, hargs, rfl, rfl, h0, r0⟩ := trodAll_cons hA
  obtain ⟨rfl, rfl, rfl⟩ := trodAll_nil r0
  obtain rfl : args = #[v0] := by cases args; simp_all
  obtain ⟨rfl, rfl⟩ := trodVars_none hV
  have k0 := h0
  have lt0 : ∀ x ∈ p0, x.block < W.heap.size := by obtain ⟨m, hm⟩ := k0; exact DataW.trod_lt m _ _ _ hm
  obtain ⟨cs0, rfl, len0, g0⟩ := open_struct Tryd.underlying31 (hval 0 31 v0 rfl rfl) h0
  have lg0 : Light Tryd.prog 31 d0 := light_of_each hsz (j := 0) (t := 31) rfl rfl
  rw [show Tryd.prog.cellsOf 31 = 4 from by kernel_rfl] at len0
  obtain ⟨e0_0, q0_0, g0_0, lg0_0⟩ := tr_struct Tryd.underlying31 g0 lg0 0 _ rfl
  obtain ⟨e0_0_0, q0_0_0, g0_0_0, lg0_0_0⟩ := tr_struct Tryd.underlying25 g0_0 lg0_0 0 _ rfl
  obtain ⟨a0_0, f0_0, w0_0⟩ := tr_int Tryd.underlying3 g0_0_0
  replace f0_0 := at_sub f0_0
  obtain ⟨e0_0_1, q0_0_1, g0_0_1, lg0_0_1⟩ := tr_struct Tryd.underlying25 g0_0 lg0_0 1 _ rfl
  obtain ⟨a0_1, f0_1, w0_1⟩ := tr_int Tryd.underlying3 g0_0_1
  replace f0_1 := at_sub f0_1
  obtain ⟨e0_1, q0_1, g0_1, lg0_1⟩ := tr_struct Tryd.underlying31 g0 lg0 1 _ rfl
  obtain ⟨a0_2, f0_2, w0_2⟩ := tr_int Tryd.underlying3 g0_1
  obtain ⟨e0_2, q0_2, g0_2, lg0_2⟩ := tr_struct Tryd.underlying31 g0 lg0 2 _ rfl
  obtain ⟨a0_3, f0_3, w0_3⟩ := tr_int Tryd.underlying3 g0_2
  obtain ⟨c0_0_, c0_1_, c0_2_, c0_3_, rfl⟩ := list4 len0
  obtain rfl := Option.some.inj f0_0
  obtain rfl := Option.some.inj f0_1
  obtain rfl := Option.some.inj f0_2
  obtain rfl := Option.some.inj f0_3
  clear hA0 hval0 hsz0
  obtain ⟨k, hp⟩ := Pure.FnExactRefText a0_0 a0_1 a0_2 a0_3 w0_0 w0_1 w0_2 w0_3
  refine (QFnExactRefText.laws_FnExactRefText.calls k a0_0 a0_1 a0_2 a0_3 true W  hp (YtjnmefhohkffpaaDoorLaid.tab3 hL)).mono fun e W' ⟨he, bel0⟩ => ?_
  have bel : Below W.heap.size W W' := bel0
  subst he
  exact ⟨_, rfl, _, _, _, [], _, [], hW', trodAll_mk1 (shut_bool Tryd.underlying4 _), (trodAll_cons_mk (Below.trod laidOut (by kernel_rfl) (of_decide_eq_true (by kernel_rfl)) k0 bel lt0) trodAll_mk0), rfl, bel.frame _, fun h => by cases h⟩
theorem over : Rows.fnExactRefTextRow.holds Tryd.pinned (OpenSpec.ofChange Rows.fnExactRefTextSpec) :=
  OpenClaim.holds_of_wide 5 Tryd.f5 rfl rfl rfl rfl rfl rfl rfl ⟨rfl, rfl, rfl, rfl, rfl⟩ rfl rfl rfl rfl rfl (by kernel_rfl) Tryd.func5 (by kernel_rfl)
    (of_decide_eq_true (by kernel_rfl)) (by unfold Func.isWrapper; first | (rw [if_pos (by decide +kernel)]; kernel_rfl) | (rw [if_neg (by decide +kernel)]; exact ⟨rfl, rfl⟩))
    (fun os started H enc _ => lifted os started H enc)
theorem proved : Rows.FnExactRefTextSaid := over
set_option maxRecDepth 100000 in
theorem carded : Rows.FnExactRefTextCardSaid :=
  Claim7.holds_tied_plain_at .later [] [.data, .data, .data] true (true, "5985017c55eafbd397d4e6d4283757772c10d882d894df3501c6395e5cd68671") true
    over (fun _ h => by cases h) (by kernel_rfl) (fun _ h => by cases h) fnExactRefText_row_tie rfl ⟨rfl, rfl⟩ (by kernel_rfl) rfl
    (fun f fn hf hfn => by
      obtain rfl : f = 5 := Option.some.inj ((show Tryd.prog.funcNamed "loop.example/g00499/laws.FnExactRefText" = some 5 by kernel_rfl).symm.trans hf) |>.symm
      obtain rfl : fn = Tryd.f5 := (Option.some.inj (Tryd.func5.symm.trans hfn)).symm
      exact ⟨by kernel_rfl, fun j t ht => by
        rw [Tryd.params5] at ht
        rcases j with _ | j
        · have h3 : t = 31 := by simpa using ht.symm
          subst h3
          exact (show Tryd.prog.wantsStandIn 31 = false by kernel_rfl)
        · simp at ht⟩)
    (by kernel_rfl)
end Go.Proofs.YtjnmefhohkffpaaDoor.fnExactRefText
namespace Go.Proofs.YtjnmefhohkffpaaDoor
/-- The row, under a short name, for the claim. -/
theorem fnExactRefText_holds : Rows.FnExactRefTextCardSaid := fnExactRefText.carded
end Go.Proofs.YtjnmefhohkffpaaDoor
