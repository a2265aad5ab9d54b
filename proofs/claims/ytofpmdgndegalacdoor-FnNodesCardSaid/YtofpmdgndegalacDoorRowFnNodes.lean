/- The given statement on the law FnNodes: for all arguments it answers true, and they read as before. No condition of its own. -/
import Derived.ChangeAt
import Derived.JoinedAt
import Derived.JoinedOf
import Derived.SevenTiedAt
import Derived.Test.YtofpmdgndegalacDoorLaid
import Derived.Test.YtofpmdgndegalacDoorCards
import Derived.Test.YtofpmdgndegalacDoorTie
import Derived.Test.YtofpmdgndegalacDoorRows
import Derived.Test.YtofpmdgndegalacDoorQFnNodesx23
import Derived.Test.YtofpmdgndegalacDoorPureFnNodes
import Derived.Test.YtofpmdgndegalacDoorOpenFnNodes
import Derived.WalkKit
import Derived.ProofKit
import Derived.OpenShut
import Derived.ShutString
import Derived.ChangeOld
import Derived.Below
import Derived.SizedLaws
namespace Go.Proofs.YtofpmdgndegalacDoor.fnNodes
open Go.ChangeShapes Go.WideShapes Go.ChangeAt Go.RowKit Go.Proofs.YtofpmdgndegalacDoor.QFnNodes
open Go.ChangeMaps (open_string shut_string)
open Go.Proofs.YtofpmdgndegalacDoorW.PrintWords Go.Proofs.YtofpmdgndegalacDoorW.PrintLast Go.Proofs.YtofpmdgndegalacDoorOpen
set_option linter.unusedVariables false
theorem own : ownKnob Tryd.prog.godebug = none := by kernel_rfl
theorem laidOut : laidOutB Tryd.prog = true := by kernel_rfl
set_option maxHeartbeats 1000000 in
set_option maxRecDepth 100000 in
theorem lifted (os : Os) (started : os.Started) (H : Type) (enc : TypeId × Value → H) :
    ReturnsInHanded {} Tryd.checked os 3 .any (fun w args => (Rows.fnNodesSpec.pre enc Tryd.prog Tryd.f3 Rows.fnNodesRow.domain false w args ∧ laidMet Tryd.prog YtofpmdgndegalacDoorLaid.laid3 w) ∧ sizedMet enc Tryd.prog Tryd.f3 (OpenSpec.ofChange Rows.fnNodesSpec) false w args) (Rows.fnNodesSpec.post enc Tryd.prog Tryd.f3 false true false false) := by
  refine returnsInHanded_of_change_and (C := Tryd.checked) (X := fun w _ => laidMet Tryd.prog YtofpmdgndegalacDoorLaid.laid3 w) (fun _ _ _ hh h => h.of_heap hh) own started (by kernel_rfl) Tryd.func3
    (ChangeSpec.witness_at (enc := enc) (C := Tryd.checked) (os := os) (X := fun w _ => laidMet Tryd.prog YtofpmdgndegalacDoorLaid.laid3 w) false (YtofpmdgndegalacDoorLaid.laidWorld os) #[.slice none 0 0] 8 rfl (by kernel_rfl) (by kernel_rfl) (by kernel_rfl) (by kernel_rfl) (by kernel_rfl) (YtofpmdgndegalacDoorLaid.laid3_met os _)) ?_
  intro W base args ds gs before hval0 hW hcnd hsz0 hL _
  have hsz : (DataW.weightsEach Tryd.prog (Tryd.f3.params.toList ++ Rows.fnNodesSpec.plain.varTypes Tryd.prog) (ds ++ gs)).all (· ≤ reachBytes) = true := hsz0
  have hval : ∀ (j : Nat) t v, Tryd.f3.params[j]? = some t → args[j]? = some v → Value.okWide Tryd.prog W .any base t v := hval0
  have hW' := hW
  obtain ⟨p, q, hA0, hV, rfl, hfz, hnd⟩ := hW
  have hA : DataW.TrodAll enc Tryd.prog W 0 (fun _ => true) true Tryd.f3.params.toList args.toList ds p := hA0
  rw [Tryd.params3] at hA hval hsz
  obtain ⟨v0, vs0, d0, ds0, p0, q0, hargs, rfl, rfl, h0, r0⟩ := trodAll_cons hA
  obtain ⟨rfl, rfl, rfl⟩ := trodAll_nil r0
  obtain rfl : args = #[v0] := by cases args; simp_all
  obtain ⟨rfl, rfl⟩ := trodVars_none hV
  have k0 := h0
  have lt0 : ∀ x ∈ p0, x.block < W.heap.size := by obtain ⟨m, hm⟩ := k0; exact DataW.trod_lt m _ _ _ hm
  obtain ⟨A0, len0, c0, rfl⟩ := okWide_slice Tryd.underlying22 (hval 0 22 v0 rfl rfl)
  have lg0 : Light Tryd.prog 22 d0 := light_of_each hsz (j := 0) (t := 22) rfl rfl
  have g0 : ∃ n, DataW.trod enc Tryd.prog W 0 (fun _ => true) true n 22 ((([Value.slice A0 len0 c0] : List Value).drop 0).take 1) = some (d0, p0) := by obtain ⟨fu, hfu⟩ := h0; exact ⟨fu, by simpa [Value.cells] using hfu⟩
  obtain ⟨A0, c0, l0, f0, hr0, hm0, hw0, hc0, hy0⟩ := tr_ints Tryd.underlying22 Tryd.underlying5 (by kernel_rfl) (by kernel_rfl : Tryd.prog.bytesOf 5 = 1) g0 lg0
  have fx0 := Option.some.inj f0
  obtain ⟨rfl, rfl, rfl⟩ := Value.slice.inj fx0
  clear hA0 hval0 hsz0
  obtain ⟨k, hp⟩ := Pure.FnNodes l0 hm0 hy0 hw0
  refine (QFnNodes.laws_FnNodes.calls k A0 c0 l0 true W (Kd.C_of_reads (d := (0 : Int)) (h1 := fun _ => rfl) hr0) hc0 hp (YtofpmdgndegalacDoorLaid.tab3 hL)).mono fun e W' ⟨he, bel0⟩ => ?_
  have bel : Below W.heap.size W W' := bel0
  subst he
  exact ⟨_, rfl, _, _, _, [], _, [], hW', trodAll_mk1 (shut_bool Tryd.underlying4 _), (trodAll_cons_mk (Below.trod laidOut (by kernel_rfl) (of_decide_eq_true (by kernel_rfl)) k0 bel lt0) trodAll_mk0), rfl, bel.frame _, fun h => by cases h⟩
theorem over : Rows.fnNodesRow.holds Tryd.pinned (OpenSpec.ofChange Rows.fnNodesSpec) :=
  OpenClaim.holds_of_wide 3 Tryd.f3 rfl rfl rfl rfl rfl rfl rfl ⟨rfl, rfl, rfl, rfl, rfl⟩ rfl rfl rfl rfl rfl (by kernel_rfl) Tryd.func3 (by kernel_rfl)
    (of_decide_eq_true (by kernel_rfl)) (by unfold Func.isWrapper; first | (rw [if_pos (by decide +kernel)]; kernel_rfl) | (rw [if_neg (by decide +kernel)]; exact ⟨rfl, rfl⟩))
    (fun os started H enc _ => lifted os started H enc)
theorem proved : Rows.FnNodesSaid := over
set_option maxRecDepth 100000 in
theorem carded : Rows.FnNodesCardSaid :=
  Claim7.holds_tied_plain_at .later [] [.data, .data, .data] true (true, "b4d72cc17dd645383c1e24825efd3807ae0011a779697d202cb861561d27b306") false
    over (fun _ h => by cases h) (by kernel_rfl) (fun _ h => by cases h) fnNodes_row_tie rfl ⟨rfl, rfl⟩ (by kernel_rfl) rfl
    (fun f fn hf hfn => by
      obtain rfl : f = 3 := Option.some.inj ((show Tryd.prog.funcNamed "loop.example/g00499/laws.FnNodes" = some 3 by kernel_rfl).symm.trans hf) |>.symm
      obtain rfl : fn = Tryd.f3 := (Option.some.inj (Tryd.func3.symm.trans hfn)).symm
      exact ⟨by kernel_rfl, fun j t ht => by
        rw [Tryd.params3] at ht
        rcases j with _ | j
        · have h3 : t = 22 := by simpa using ht.symm
          subst h3
          exact (show Tryd.prog.wantsStandIn 22 = false by kernel_rfl)
        · simp at ht⟩)
    (by kernel_rfl)
end Go.Proofs.YtofpmdgndegalacDoor.fnNodes
namespace Go.Proofs.YtofpmdgndegalacDoor
/-- The row, under a short name, for the claim. -/
theorem fnNodes_holds : Rows.FnNodesCardSaid := fnNodes.carded
end Go.Proofs.YtofpmdgndegalacDoor
