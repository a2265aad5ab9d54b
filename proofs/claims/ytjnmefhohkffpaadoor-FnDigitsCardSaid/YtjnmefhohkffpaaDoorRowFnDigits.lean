/- The given statement on the law FnDigits: for all arguments it answers true, and they read as before. No condition of its own. -/
import Derived.ChangeAt
import Derived.JoinedAt
import Derived.JoinedOf
import Derived.SevenTiedAt
import Derived.Test.YtjnmefhohkffpaaDoorLaid
import Derived.Test.YtjnmefhohkffpaaDoorCards
import Derived.Test.YtjnmefhohkffpaaDoorTie
import Derived.Test.YtjnmefhohkffpaaDoorRows
import Derived.Test.YtjnmefhohkffpaaDoorQFnDigitsx2
import Derived.Test.YtjnmefhohkffpaaDoorPureFnDigits
import Derived.Test.YtjnmefhohkffpaaDoorOpen
import Derived.WalkKit
import Derived.ProofKit
import Derived.OpenShut
import Derived.ShutString
import Derived.ChangeOld
import Derived.Below
import Derived.SizedLaws
namespace Go.Proofs.YtjnmefhohkffpaaDoor.fnDigits
open Go.ChangeShapes Go.WideShapes Go.ChangeAt Go.RowKit Go.Proofs.YtjnmefhohkffpaaDoor.QFnDigits
open Go.ChangeMaps (open_string shut_string)
open Go.Proofs.YtjnmefhohkffpaaDoorW.PrintWords Go.Proofs.YtjnmefhohkffpaaDoorW.PrintLast Go.Proofs.YtjnmefhohkffpaaDoorOpen
set_option linter.unusedVariables false
theorem own : ownKnob Tryd.prog.godebug = none := by kernel_rfl
theorem laidOut : laidOutB Tryd.prog = true := by kernel_rfl
set_option maxHeartbeats 1000000 in
set_option maxRecDepth 100000 in
theorem lifted (os : Os) (started : os.Started) (H : Type) (enc : TypeId × Value → H) :
    ReturnsInHanded {} Tryd.checked os 10 .any (fun w args => (Rows.fnDigitsSpec.pre enc Tryd.prog Tryd.f10 Rows.fnDigitsRow.domain false w args ∧ laidMet Tryd.prog YtjnmefhohkffpaaDoorLaid.laid5 w) ∧ sizedMet enc Tryd.prog Tryd.f10 (OpenSpec.ofChange Rows.fnDigitsSpec) false w args) (Rows.fnDigitsSpec.post enc Tryd.prog Tryd.f10 false true false false) := by
  refine returnsInHanded_of_change_and (C := Tryd.checked) (X := fun w _ => laidMet Tryd.prog YtjnmefhohkffpaaDoorLaid.laid5 w) (fun _ _ _ hh h => h.of_heap hh) own started (by kernel_rfl) Tryd.func10
    (ChangeSpec.witness_at (enc := enc) (C := Tryd.checked) (os := os) (X := fun w _ => laidMet Tryd.prog YtjnmefhohkffpaaDoorLaid.laid5 w) false (YtjnmefhohkffpaaDoorLaid.laidWorld os) #[.slice none 0 0] 8 rfl (by kernel_rfl) (by kernel_rfl) (by kernel_rfl) (by kernel_rfl) (by kernel_rfl) (YtjnmefhohkffpaaDoorLaid.laid5_met os _)) ?_
  intro W base args ds gs before hval0 hW hcnd hsz0 hL _
  have hsz : (DataW.weightsEach Tryd.prog (Tryd.f10.params.toList ++ Rows.fnDigitsSpec.plain.varTypes Tryd.prog) (ds ++ gs)).all (· ≤ reachBytes) = true := hsz0
  have hval : ∀ (j : Nat) t v, Tryd.f10.params[j]? = some t → args[j]? = some v → Value.okWide Tryd.prog W .any base t v := hval0
  have hW' := hW
  obtain ⟨p, q, hA0, hV, rfl, hfz, hnd⟩ := hW
  have hA : DataW.TrodAll enc Tryd.prog W 0 (fun _ => true) true Tryd.f10.params.toList args.toList ds p := hA0
  rw [Tryd.params10] at hA hval hsz
  obtain ⟨v0, vs0, d0, ds0, p0, q0, hargs, rfl, rfl, h0, r0⟩ := trodAll_cons hA
  obtain ⟨rfl, rfl, rfl⟩ := trodAll_nil r0
  obtain rfl : args = #[v0] := by cases args; simp_all
  obtain ⟨rfl, rfl⟩ := trodVars_none hV
  have k0 := h0
  have lt0 : ∀ x ∈ p0, x.block < W.heap.size := by obtain ⟨m, hm⟩ := k0; exact DataW.trod_lt m _ _ _ hm
  obtain ⟨A0, len0, c0, rfl⟩ := okWide_slice Tryd.underlying58 (hval 0 58 v0 rfl rfl)
  have lg0 : Light Tryd.prog 58 d0 := light_of_each hsz (j := 0) (t := 58) rfl rfl
  have g0 : ∃ n, DataW.trod enc Tryd.prog W 0 (fun _ => true) true n 58 ((([Value.slice A0 len0 c0] : List Value).drop 0).take 1) = some (d0, p0) := by obtain ⟨fu, hfu⟩ := h0; exact ⟨fu, by simpa [Value.cells] using hfu⟩
  obtain ⟨A0, c0, l0, f0, hr0, hm0, hw0, hc0, hy0⟩ := tr_ints Tryd.underlying58 Tryd.underlying5 (by kernel_rfl) (by kernel_rfl : Tryd.prog.bytesOf 5 = 1) g0 lg0
  have fx0 := Option.some.inj f0
  obtain ⟨rfl, rfl, rfl⟩ := Value.slice.inj fx0
  clear hA0 hval0 hsz0
  obtain ⟨k, hp⟩ := Pure.FnDigits l0 hm0 hy0 hw0
  refine (QFnDigits.laws_FnDigits.calls k A0 c0 l0 true W (Kd.C_of_reads (d := (0 : Int)) (h1 := fun _ => rfl) hr0) hc0 hp (YtjnmefhohkffpaaDoorLaid.tab5 hL)).mono fun e W' ⟨he, bel0⟩ => ?_
  have bel : Below W.heap.size W W' := bel0
  subst he
  exact ⟨_, rfl, _, _, _, [], _, [], hW', trodAll_mk1 (shut_bool Tryd.underlying4 _), (trodAll_cons_mk (Below.trod laidOut (by kernel_rfl) (of_decide_eq_true (by kernel_rfl)) k0 bel lt0) trodAll_mk0), rfl, bel.frame _, fun h => by cases h⟩
theorem over : Rows.fnDigitsRow.holds Tryd.pinned (OpenSpec.ofChange Rows.fnDigitsSpec) :=
  OpenClaim.holds_of_wide 10 Tryd.f10 rfl rfl rfl rfl rfl rfl rfl ⟨rfl, rfl, rfl, rfl, rfl⟩ rfl rfl rfl rfl rfl (by kernel_rfl) Tryd.func10 (by kernel_rfl)
    (of_decide_eq_true (by kernel_rfl)) (by unfold Func.isWrapper; first | (rw [if_pos (by decide +kernel)]; kernel_rfl) | (rw [if_neg (by decide +kernel)]; exact ⟨rfl, rfl⟩))
    (fun os started H enc _ => lifted os started H enc)
theorem proved : Rows.FnDigitsSaid := over
set_option maxRecDepth 100000 in
theorem carded : Rows.FnDigitsCardSaid :=
  Claim7.holds_tied_plain_at .later [] [.data, .data, .data, .sentinel, .sentinel] true (true, "5985017c55eafbd397d4e6d4283757772c10d882d894df3501c6395e5cd68671") true
    over (fun _ h => by cases h) (by kernel_rfl) (fun _ h => by cases h) fnDigits_row_tie rfl ⟨rfl, rfl⟩ (by kernel_rfl) rfl
    (fun f fn hf hfn => by
      obtain rfl : f = 10 := Option.some.inj ((show Tryd.prog.funcNamed "loop.example/g00499/laws.FnDigits" = some 10 by kernel_rfl).symm.trans hf) |>.symm
      obtain rfl : fn = Tryd.f10 := (Option.some.inj (Tryd.func10.symm.trans hfn)).symm
      exact ⟨by kernel_rfl, fun j t ht => by
        rw [Tryd.params10] at ht
        rcases j with _ | j
        · have h3 : t = 58 := by simpa using ht.symm
          subst h3
          exact (show Tryd.prog.wantsStandIn 58 = false by kernel_rfl)
        · simp at ht⟩)
    (by kernel_rfl)
end Go.Proofs.YtjnmefhohkffpaaDoor.fnDigits
namespace Go.Proofs.YtjnmefhohkffpaaDoor
/-- The row, under a short name, for the claim. -/
theorem fnDigits_holds : Rows.FnDigitsCardSaid := fnDigits.carded
end Go.Proofs.YtjnmefhohkffpaaDoor
