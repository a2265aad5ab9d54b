/- The given statement on the law FnNames: for all arguments it answers true, and they read as before. No condition of its own. -/
import Derived.ChangeAt
import Derived.JoinedAt
import Derived.JoinedOf
import Derived.SevenTiedAt
import Derived.Test.YtjnmefhohkffpaaDoorLaid
import Derived.Test.YtjnmefhohkffpaaDoorCards
import Derived.Test.YtjnmefhohkffpaaDoorTie
import Derived.Test.YtjnmefhohkffpaaDoorRows
import Derived.Test.YtjnmefhohkffpaaDoorQFnNamesx9
import Derived.Test.YtjnmefhohkffpaaDoorPureFnNames
import Derived.Test.YtjnmefhohkffpaaDoorOpenFnNames
import Derived.WalkKit
import Derived.ProofKit
import Derived.OpenShut
import Derived.ShutString
import Derived.ChangeOld
import Derived.Below
import Derived.SizedLaws
namespace Go.Proofs.YtjnmefhohkffpaaDoor.fnNames
open Go.ChangeShapes Go.WideShapes Go.ChangeAt Go.RowKit Go.Proofs.YtjnmefhohkffpaaDoor.QFnNames
open Go.ChangeMaps (open_string shut_string)
open Go.Proofs.YtjnmefhohkffpaaDoorW.PrintWords Go.Proofs.YtjnmefhohkffpaaDoorW.PrintLast Go.Proofs.YtjnmefhohkffpaaDoorOpen
set_option linter.unusedVariables false
section
variable {H : Type} {enc : TypeId × Value → H}
/-- A row with listed variables whose contract asks for the world's shape, too. -/
theorem handed_shaped {a : Assume} {C : Checked} {os : Os} {f : FuncId} {fn : Func} {s : ChangeSpec} {conds : List PathCond} {apart fresh handsOn again : Bool} {X : World → Array Value → Prop}
    (blind : ∀ (w w' : World) (args : Array Value), w.heap = w'.heap → X w args → X w' args)
    (own : ownKnob C.prog.godebug = none) (started : os.Started) (noInit : C.prog.inits.idxOf? f = none) (hfn : C.prog.funcs[f]? = some fn)
    (witness : ∃ (w : World) (tape : Tape) (i : Input), w.os = os ∧ (w.forCall tape i).Shaped C.prog ∧ i.vars = [] ∧ Input.okWide C.prog (w.forCall tape i) .any w.heap.size f i ∧
      ((s.pre enc C.prog fn conds apart (w.forCall tape i).memory i.args ∧ X (w.forCall tape i).memory i.args) ∧ sizedMet enc C.prog fn (OpenSpec.ofChange s) apart (w.forCall tape i).memory i.args) ∧ a.holds C.prog (lone (Frame.enter C.prog f i.args .normal) [] (w.forCall tape i)))
    (law : ∀ (W : World) (base : Nat) (args : Array Value) (ds gs : List (DataW H)) (before : List MemPlace),
      (∀ (j : Nat) t v, fn.params[j]? = some t → args[j]? = some v → Value.okWide C.prog W .any base t v) →
      DataW.Whole enc C.prog fn.params.toList s.vars apart W args.toList ds gs before →
      conds.all (PathCond.test C.prog ⟨fn.params.toList, ds, s.plain.varTypes C.prog, gs⟩) = true →
      (DataW.weightsEach C.prog (fn.params.toList ++ s.plain.varTypes C.prog) (ds ++ gs)).all (· ≤ reachBytes) = true → X W args → W.ShapedOpen C.prog →
      a.holds C.prog (lone (Frame.enter C.prog f args .normal) [] W) →
      Calls C.prog f args W fun e W' => ∃ v, e = .returned v ∧ s.post enc C.prog fn apart fresh handsOn again W args v W') :
    ReturnsInHanded a C os f .any (fun w args => (s.pre enc C.prog fn conds apart w args ∧ X w args) ∧ sizedMet enc C.prog fn (OpenSpec.ofChange s) apart w args) (s.post enc C.prog fn apart fresh handsOn again) := by
  refine returnsInHanded_of_calls own started noInit witness ?_
  intro w tape i _ shaped _ fits met held
  obtain ⟨_, _, _, g, hg, _, _, _, _, vals⟩ := fits
  obtain rfl : g = fn := Option.some.inj (hg.symm.trans hfn)
  obtain ⟨⟨⟨ds, gs, before, whole, holds⟩, listed⟩, sized⟩ := met
  have whole2 := DataW.Whole.of_heap (w' := w.forCall tape i) (by rfl) whole
  refine (law (w.forCall tape i) w.heap.size i.args ds gs before vals whole2 holds (sized.weights whole) (blind _ _ _ (by rfl) listed) shaped held).mono fun e W' he => ?_
  obtain ⟨v, rfl, hp⟩ := he
  exact ChangeSpec.post_blind hp
end
theorem tb_of {W : World} {A B C : Prop} (h : A ∧ B ∧ C) (hsh : W.ShapedOpen Tryd.prog) : A ∧ B ∧ C ∧ (∃ m, W.cell? ⟨3, 0, none⟩ = some (.int .i64 m)) :=
  ⟨h.1, h.2.1, h.2.2, cell_of_shapedOpen_int (t := 3) (zero := #[.int .i64 0]) hsh (of_decide_eq_true (by kernel_rfl)) (by kernel_rfl) rfl (by kernel_rfl) (by kernel_rfl) Tryd.underlying3⟩
theorem own : ownKnob Tryd.prog.godebug = none := by kernel_rfl
theorem laidOut : laidOutB Tryd.prog = true := by kernel_rfl
set_option maxHeartbeats 1000000 in
set_option maxRecDepth 100000 in
theorem lifted (os : Os) (started : os.Started) (H : Type) (enc : TypeId × Value → H) :
    ReturnsInHanded {} Tryd.checked os 11 .any (fun w args => (Rows.fnNamesSpec.pre enc Tryd.prog Tryd.f11 Rows.fnNamesRow.domain false w args ∧ laidMet Tryd.prog YtjnmefhohkffpaaDoorLaid.laid7 w) ∧ sizedMet enc Tryd.prog Tryd.f11 (OpenSpec.ofChange Rows.fnNamesSpec) false w args) (Rows.fnNamesSpec.post enc Tryd.prog Tryd.f11 false true false false) := by
  refine handed_shaped (C := Tryd.checked) (X := fun w _ => laidMet Tryd.prog YtjnmefhohkffpaaDoorLaid.laid7 w) (fun _ _ _ hh h => h.of_heap hh) own started (by kernel_rfl) Tryd.func11
    (ChangeSpec.witness_at (enc := enc) (C := Tryd.checked) (os := os) (X := fun w _ => laidMet Tryd.prog YtjnmefhohkffpaaDoorLaid.laid7 w) false (YtjnmefhohkffpaaDoorLaid.laidWorld os) #[.slice none 0 0] 8 rfl (by kernel_rfl) (by kernel_rfl) (by kernel_rfl) (by kernel_rfl) (by kernel_rfl) (YtjnmefhohkffpaaDoorLaid.laid7_met os _)) ?_
  intro W base args ds gs before hval0 hW hcnd hsz0 hL hsh _
  have hsz : (DataW.weightsEach Tryd.prog (Tryd.f11.params.toList ++ Rows.fnNamesSpec.plain.varTypes Tryd.prog) (ds ++ gs)).all (· ≤ reachBytes) = true := hsz0
  have hval : ∀ (j : Nat) t v, Tryd.f11.params[j]? = some t → args[j]? = some v → Value.okWide Tryd.prog W .any base t v := hval0
  have hW' := hW
  obtain ⟨p, q, hA0, hV, rfl, hfz, hnd⟩ := hW
  have hA : DataW.TrodAll enc Tryd.prog W 0 (fun _ => true) true Tryd.f11.params.toList args.toList ds p := hA0
  rw [Tryd.params11] at hA hval hsz
  obtain ⟨v0, vs0, d0, ds0, p0, q0, hargs, rfl, rfl, h0, r0⟩ := trodAll_cons hA
  obtain ⟨rfl, rfl, rfl⟩ := trodAll_nil r0
  obtain rfl : args = #[v0] := by cases args; simp_all
  obtain ⟨rfl, rfl⟩ := trodVars_none hV
  have k0 := h0
  have lt0 : ∀ x ∈ p0, x.block < W.heap.size := by obtain ⟨m, hm⟩ := k0; exact DataW.trod_lt m _ _ _ hm
  obtain ⟨A0, len0, c0, rfl⟩ := okWide_slice Tryd.underlying58 (hval 0 58 v0 rfl rfl)
  have lg0 : Light Tryd.prog 58 d0 := light_of_each hsz (j := 0) (t := 58) rfl rfl
  have g0 : ∃ n, DataW.trod enc Tryd.prog W 0 (fun _ => true) true n 58 ((([Value.slice A0 len0 c0] : List Value).drop 0).take 1) = some (d0, p0) := by obtain ⟨fu, hfu⟩ := h0; exact ⟨fu, by simpa [Value.cells] using hfu⟩
  obtain ⟨A0, c0, l0, f0, hr0, hm0, hw0, hc0, hy0⟩ := tr_ints Tryd.underlying58 Tryd.underlying5 (by kernel_rfl) (by kernel_rfl : Tryd.prog.bytesOf 5 = 1) g0 lg0
  have fx0 := Option.some.inj f0
  obtain ⟨rfl, rfl, rfl⟩ := Value.slice.inj fx0
  clear hA0 hval0 hsz0
  obtain ⟨k, hp⟩ := Pure.FnNames l0 hm0 hy0 hw0
  refine (QFnNames.laws_FnNames.calls k A0 c0 l0 true W (Kd.C_of_reads (d := (0 : Int)) (h1 := fun _ => rfl) hr0) hc0 hp (tb_of (YtjnmefhohkffpaaDoorLaid.tab7 hL) hsh)).mono fun e W' ⟨he, bel0⟩ => ?_
  have bel : Below W.heap.size W W' := bel0
  subst he
  exact ⟨_, rfl, _, _, _, [], _, [], hW', trodAll_mk1 (shut_bool Tryd.underlying4 _), (trodAll_cons_mk (Below.trod laidOut (by kernel_rfl) (of_decide_eq_true (by kernel_rfl)) k0 bel lt0) trodAll_mk0), rfl, bel.frame _, fun h => by cases h⟩
theorem over : Rows.fnNamesRow.holds Tryd.pinned (OpenSpec.ofChange Rows.fnNamesSpec) :=
  OpenClaim.holds_of_wide 11 Tryd.f11 rfl rfl rfl rfl rfl rfl rfl ⟨rfl, rfl, rfl, rfl, rfl⟩ rfl rfl rfl rfl rfl (by kernel_rfl) Tryd.func11 (by kernel_rfl)
    (of_decide_eq_true (by kernel_rfl)) (by unfold Func.isWrapper; first | (rw [if_pos (by decide +kernel)]; kernel_rfl) | (rw [if_neg (by decide +kernel)]; exact ⟨rfl, rfl⟩))
    (fun os started H enc _ => lifted os started H enc)
theorem proved : Rows.FnNamesSaid := over
set_option maxRecDepth 100000 in
theorem carded : Rows.FnNamesCardSaid :=
  Claim7.holds_tied_plain_at .later [] [.data, .data, .data, .data, .sentinel, .sentinel, .pinned] true (true, "5985017c55eafbd397d4e6d4283757772c10d882d894df3501c6395e5cd68671") true
    over (fun _ h => by cases h) (by kernel_rfl) (fun _ h => by cases h) fnNames_row_tie rfl ⟨rfl, rfl⟩ (by kernel_rfl) rfl
    (fun f fn hf hfn => by
      obtain rfl : f = 11 := Option.some.inj ((show Tryd.prog.funcNamed "loop.example/g00499/laws.FnNames" = some 11 by kernel_rfl).symm.trans hf) |>.symm
      obtain rfl : fn = Tryd.f11 := (Option.some.inj (Tryd.func11.symm.trans hfn)).symm
      exact ⟨by kernel_rfl, fun j t ht => by
        rw [Tryd.params11] at ht
        rcases j with _ | j
        · have h3 : t = 58 := by simpa using ht.symm
          subst h3
          exact (show Tryd.prog.wantsStandIn 58 = false by kernel_rfl)
        · simp at ht⟩)
    (by kernel_rfl)
end Go.Proofs.YtjnmefhohkffpaaDoor.fnNames
namespace Go.Proofs.YtjnmefhohkffpaaDoor
/-- The row, under a short name, for the claim. -/
theorem fnNames_holds : Rows.FnNamesCardSaid := fnNames.carded
end Go.Proofs.YtjnmefhohkffpaaDoor
