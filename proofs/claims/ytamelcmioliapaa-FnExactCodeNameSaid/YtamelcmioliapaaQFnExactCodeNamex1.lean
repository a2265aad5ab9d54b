/- What the functions that the law FnExactCodeName reaches compute, as plain functions, and that the code computes just that (by a program of this session's; the library's functions by hand). No condition. -/
import Derived.Test.YtamelcmioliapaaQFnExactCodeNamex0
namespace Go.Proofs.Ytamelcmioliapaa.QFnExactCodeName
open Go.RowKit Go.Proofs.YtamelcmioliapaaW.PrintWords Go.Proofs.YtamelcmioliapaaW.PrintLast Go.Proofs.YtamelcmioliapaaW.PrintMore
attribute [local go_sem] max2_int min2_int max_two min_two max_three min_three max_four min_four   -- for this text's walks alone
set_option linter.unusedVariables false
set_option linter.unusedSimpArgs false

/-! ### spec_l1In: function 56 -/
def spec_l1In.f (a0 : Int) (a1 : Int) (a2 : Int) : Option (Bool) := if a0 ≥ a1 then (some (decide (a0 ≤ a2))) else (some false)
set_option maxHeartbeats 8000000 in
set_option maxRecDepth 100000 in
theorem spec_l1In.calls (a0 : Int) (a1 : Int) (a2 : Int) (r : Bool) (w : World) (h : spec_l1In.f a0 a1 a2 = some r) :
    Calls Try.prog 56 #[.int .i64 a0, .int .i64 a1, .int .i64 a2] w fun e w' => e = .returned (.bool r) ∧ Drawn0 w w' := by
  have H : (if a0 ≥ a1 then (some (decide (a0 ≤ a2))) else (some false)) = some r := h
  clear h
  by_cases c4 : a0 ≥ a1
  · rw [if_pos c4] at H
    have c4b0 : decide (a1 ≤ a0) = true := decide_eq_true c4
    clear c4
    obtain rfl := Option.some.inj H
    go_enter Try.func56, Try.ntmps56
    go_wp2
    go_ret
    exact ⟨by first | rfl | (simp; done) | (simp [*]; done), by repeat (first | exact Drawn0.refl _ | apply Drawn0.step)⟩
  · rw [if_neg c4] at H
    have c4b0 : decide (a1 ≤ a0) = false := decide_eq_false c4
    clear c4
    obtain rfl := Option.some.inj H
    go_enter Try.func56, Try.ntmps56
    go_wp2
    go_ret
    exact ⟨by first | rfl | (simp; done) | (simp [*]; done), by repeat (first | exact Drawn0.refl _ | apply Drawn0.step)⟩

/-! ### spec_CodeName: function 13 -/
def spec_CodeName.f (a0 : Int) : Option (ByteArray) := (some (([(⟨#[111, 107]⟩ : ByteArray), (⟨#[102, 111, 114, 109]⟩ : ByteArray), (⟨#[115, 116, 97, 108, 101]⟩ : ByteArray), (⟨#[100, 101, 101, 112]⟩ : ByteArray), (⟨#[114, 111, 111, 109, 115]⟩ : ByteArray), (⟨#[102, 117, 108, 108]⟩ : ByteArray), (⟨#[102, 114, 97, 103]⟩ : ByteArray), (⟨#[114, 97, 110, 103, 101]⟩ : ByteArray), (⟨#[109, 97, 110, 121]⟩ : ByteArray)] : List ByteArray) : List ByteArray)).bind fun y101 => ((spec_l1In.f a0 0 (wrap64 ((y101.length : Int) - 1))).bind fun t104 => (if t104 = true then (if 0 ≤ a0 then (if a0 < (y101.length : Int) then (some (rdOf ByteArray.empty y101 a0)) else (none)) else (none)) else (some (⟨#[]⟩ : ByteArray))))
set_option maxHeartbeats 8000000 in
set_option maxRecDepth 100000 in
theorem spec_CodeName.calls (a0 : Int) (r : ByteArray) (w : World) (h : spec_CodeName.f a0 = some r) :
    Calls Try.prog 13 #[.int .i64 a0] w fun e w' => e = .returned (.string r) ∧ Below w.heap.size w w' := by
  have HB := Aside0.mk (Below.refl w.heap.size w)
  have H : ((some (([(⟨#[111, 107]⟩ : ByteArray), (⟨#[102, 111, 114, 109]⟩ : ByteArray), (⟨#[115, 116, 97, 108, 101]⟩ : ByteArray), (⟨#[100, 101, 101, 112]⟩ : ByteArray), (⟨#[114, 111, 111, 109, 115]⟩ : ByteArray), (⟨#[102, 117, 108, 108]⟩ : ByteArray), (⟨#[102, 114, 97, 103]⟩ : ByteArray), (⟨#[114, 97, 110, 103, 101]⟩ : ByteArray), (⟨#[109, 97, 110, 121]⟩ : ByteArray)] : List ByteArray) : List ByteArray)).bind fun y101 => ((spec_l1In.f a0 0 (wrap64 ((y101.length : Int) - 1))).bind fun t104 => (if t104 = true then (if 0 ≤ a0 then (if a0 < (y101.length : Int) then (some (rdOf ByteArray.empty y101 a0)) else (none)) else (none)) else (some (⟨#[]⟩ : ByteArray))))) = some r := h
  clear h
  obtain ⟨y101, hy101⟩ : ∃ y_ : List ByteArray, y_ = (([(⟨#[111, 107]⟩ : ByteArray), (⟨#[102, 111, 114, 109]⟩ : ByteArray), (⟨#[115, 116, 97, 108, 101]⟩ : ByteArray), (⟨#[100, 101, 101, 112]⟩ : ByteArray), (⟨#[114, 111, 111, 109, 115]⟩ : ByteArray), (⟨#[102, 117, 108, 108]⟩ : ByteArray), (⟨#[102, 114, 97, 103]⟩ : ByteArray), (⟨#[114, 97, 110, 103, 101]⟩ : ByteArray), (⟨#[109, 97, 110, 121]⟩ : ByteArray)] : List ByteArray)) := ⟨_, rfl⟩
  replace H : ((spec_l1In.f a0 0 (wrap64 ((y101.length : Int) - 1))).bind fun t104 => (if t104 = true then (if 0 ≤ a0 then (if a0 < (y101.length : Int) then (some (rdOf ByteArray.empty y101 a0)) else (none)) else (none)) else (some (⟨#[]⟩ : ByteArray)))) = some r := by first | (rw [hy101]; with_reducible exact H) | (have H2_ := (Option.bind_some _ _).symm.trans H; rw [hy101]; with_reducible exact H2_) | (have H2_ := (Option.bind_some _ _).symm.trans H; with_reducible exact H2_) | with_reducible exact H | (rw [hy101]; exact H) | exact H
  have Ny101 := Aside0.mk hy101
  clear hy101
  replace H := Option.bind_eq_some_iff.mp H
  obtain ⟨t104, A20, H⟩ := H
  replace H : (if t104 = true then (if 0 ≤ a0 then (if a0 < (y101.length : Int) then (some (rdOf ByteArray.empty y101 a0)) else (none)) else (none)) else (some (⟨#[]⟩ : ByteArray))) = some r := H
  have A2 := Aside0.mk A20
  clear A20
  by_cases c3 : t104 = true
  · subst c3
    have H1 : (if 0 ≤ a0 then (if a0 < (y101.length : Int) then (some (rdOf ByteArray.empty y101 a0)) else (none)) else (none)) = some r := by rw [if_pos rfl] at H; exact H
    clear H
    have H := H1
    clear H1
    by_cases c4 : 0 ≤ a0
    · rw [if_pos c4] at H
      have c4b0 : decide (0 ≤ a0) = true := decide_eq_true c4
      clear c4
      by_cases c5 : a0 < (y101.length : Int)
      · rw [if_pos c5] at H
        have c5b0 : decide (a0 < (y101.length : Int)) = true := decide_eq_true c5
        clear c5
        obtain rfl := Option.some.inj H
        go_enter Try.func13, Try.ntmps13
        go_wp2_with (first | ((with_reducible refine gate_dst (N := 4) rfl ?_); refine Kd.R_lit Kd.string _ 9 ?hg (N := 4) ?hd (xs := ([(⟨#[111, 107]⟩ : ByteArray), (⟨#[102, 111, 114, 109]⟩ : ByteArray), (⟨#[115, 116, 97, 108, 101]⟩ : ByteArray), (⟨#[100, 101, 101, 112]⟩ : ByteArray), (⟨#[114, 111, 111, 109, 115]⟩ : ByteArray), (⟨#[102, 117, 108, 108]⟩ : ByteArray), (⟨#[102, 114, 97, 103]⟩ : ByteArray), (⟨#[114, 97, 110, 103, 101]⟩ : ByteArray), (⟨#[109, 97, 110, 121]⟩ : ByteArray)] : List ByteArray)) (inner := [.string (⟨#[111, 107]⟩ : ByteArray), .string (⟨#[102, 111, 114, 109]⟩ : ByteArray), .string (⟨#[115, 116, 97, 108, 101]⟩ : ByteArray), .string (⟨#[100, 101, 101, 112]⟩ : ByteArray), .string (⟨#[114, 111, 111, 109, 115]⟩ : ByteArray), .string (⟨#[102, 117, 108, 108]⟩ : ByteArray), .string (⟨#[102, 114, 97, 103]⟩ : ByteArray), .string (⟨#[114, 97, 110, 103, 101]⟩ : ByteArray), .string (⟨#[109, 97, 110, 121]⟩ : ByteArray)]) (ok := fun _ => True) (okp := fun _ => True) ?hr ?hp (fun _ hk => hk) trivial (Below.refl _ _) (Nat.le_refl _) (by simp) ?_; (case hd => rfl); (case hg => rfl); (case hr => first | (go_simp; done) | (go_simp; rfl)); (case hp => exact (Reps.one (show Kd.M Kd.string _ _ _ (⟨#[111, 107]⟩ : ByteArray) [.string (⟨#[111, 107]⟩ : ByteArray)] from rfl) (Reps.one (show Kd.M Kd.string _ _ _ (⟨#[102, 111, 114, 109]⟩ : ByteArray) [.string (⟨#[102, 111, 114, 109]⟩ : ByteArray)] from rfl) (Reps.one (show Kd.M Kd.string _ _ _ (⟨#[115, 116, 97, 108, 101]⟩ : ByteArray) [.string (⟨#[115, 116, 97, 108, 101]⟩ : ByteArray)] from rfl) (Reps.one (show Kd.M Kd.string _ _ _ (⟨#[100, 101, 101, 112]⟩ : ByteArray) [.string (⟨#[100, 101, 101, 112]⟩ : ByteArray)] from rfl) (Reps.one (show Kd.M Kd.string _ _ _ (⟨#[114, 111, 111, 109, 115]⟩ : ByteArray) [.string (⟨#[114, 111, 111, 109, 115]⟩ : ByteArray)] from rfl) (Reps.one (show Kd.M Kd.string _ _ _ (⟨#[102, 117, 108, 108]⟩ : ByteArray) [.string (⟨#[102, 117, 108, 108]⟩ : ByteArray)] from rfl) (Reps.one (show Kd.M Kd.string _ _ _ (⟨#[102, 114, 97, 103]⟩ : ByteArray) [.string (⟨#[102, 114, 97, 103]⟩ : ByteArray)] from rfl) (Reps.one (show Kd.M Kd.string _ _ _ (⟨#[114, 97, 110, 103, 101]⟩ : ByteArray) [.string (⟨#[114, 97, 110, 103, 101]⟩ : ByteArray)] from rfl) (Reps.one (show Kd.M Kd.string _ _ _ (⟨#[109, 97, 110, 121]⟩ : ByteArray) [.string (⟨#[109, 97, 110, 121]⟩ : ByteArray)] from rfl) (Reps.none _ _))))))))))); intro v102 w6 ho7 hb hg_ hnew_; clear hg_ hnew_; (first | rw [← Ny101.out] at ho7 | (simp only [Int.reduceToNat] at ho7; rw [← Ny101.out] at ho7)); have n0_ := Aside0.mk (Kd.R_lower ho7 (below_size (by repeat (first | (with_reducible first | exact HB.out | apply below_alloc | apply pw_below_drewN | apply below_drew1) | exact HB.out)))); have n1_ := Aside0.mk (below_step (by repeat (first | (with_reducible first | exact HB.out | apply below_alloc | apply pw_below_drewN | apply below_drew1) | exact HB.out)) hb); clear HB; have HO103 := n0_; have HB := n1_; clear n0_ n1_; clear hb ho7; obtain ⟨Ao8, co8, eo8⟩ := Kd.R_slice HO103.out; subst eo8) | ((with_reducible refine gate_callee (f := 56) rfl ?_); refine goesL_ (some 9) rfl rfl Try.func56 (by kernel_rfl) rfl #[.int .i64 a0, .int .i64 0, .int .i64 (wrap64 ((y101.length : Int) - 1))] rfl (by (try simp only [List.map_toArray, List.map_cons, List.map_nil]); first | done | rfl | (simp only [List.length_drop, List.length_take]; rfl)) ?_; (with_reducible refine (spec_l1In.calls a0 0 (wrap64 ((y101.length : Int) - 1)) true _ A2.out).mono ?_); rintro e w' ⟨rfl, ⟨nd, rfl⟩⟩; refine ⟨_, rfl, ?_⟩; have p105 : 0 ≤ (a0 : Int) := of_decide_eq_true (by first | (with_reducible assumption) | assumption); have q105 : a0 < (y101.length : Int) := of_decide_eq_true (by first | (with_reducible assumption) | assumption); obtain ⟨ad105, e105, hx105_0⟩ := Kd.at_string (Kd.R_reads' HO103.out).2.2 a0 p105 q105; cases e105; replace p105 := eq_true p105; replace q105 := eq_true q105))
        go_ret
        exact ⟨by first | rfl | (simp [errW_none, errW_some] <;> rfl) | (simp [*, errW_none, errW_some] <;> rfl), by repeat (first | (with_reducible first | exact HB.out | apply below_alloc | apply pw_below_drewN | apply below_drew1) | exact HB.out)⟩
      · rw [if_neg c5] at H
        exact absurd H (by simp)
    · rw [if_neg c4] at H
      exact absurd H (by simp)
  · replace c3 := Bool.eq_false_iff.mpr c3
    subst c3
    have H1 : (some (⟨#[]⟩ : ByteArray)) = some r := by rw [if_neg (show ¬ (false = true) by decide)] at H; exact H
    clear H
    have H := H1
    clear H1
    obtain rfl := Option.some.inj H
    go_enter Try.func13, Try.ntmps13
    go_wp2_with (first | ((with_reducible refine gate_dst (N := 4) rfl ?_); refine Kd.R_lit Kd.string _ 9 ?hg (N := 4) ?hd (xs := ([(⟨#[111, 107]⟩ : ByteArray), (⟨#[102, 111, 114, 109]⟩ : ByteArray), (⟨#[115, 116, 97, 108, 101]⟩ : ByteArray), (⟨#[100, 101, 101, 112]⟩ : ByteArray), (⟨#[114, 111, 111, 109, 115]⟩ : ByteArray), (⟨#[102, 117, 108, 108]⟩ : ByteArray), (⟨#[102, 114, 97, 103]⟩ : ByteArray), (⟨#[114, 97, 110, 103, 101]⟩ : ByteArray), (⟨#[109, 97, 110, 121]⟩ : ByteArray)] : List ByteArray)) (inner := [.string (⟨#[111, 107]⟩ : ByteArray), .string (⟨#[102, 111, 114, 109]⟩ : ByteArray), .string (⟨#[115, 116, 97, 108, 101]⟩ : ByteArray), .string (⟨#[100, 101, 101, 112]⟩ : ByteArray), .string (⟨#[114, 111, 111, 109, 115]⟩ : ByteArray), .string (⟨#[102, 117, 108, 108]⟩ : ByteArray), .string (⟨#[102, 114, 97, 103]⟩ : ByteArray), .string (⟨#[114, 97, 110, 103, 101]⟩ : ByteArray), .string (⟨#[109, 97, 110, 121]⟩ : ByteArray)]) (ok := fun _ => True) (okp := fun _ => True) ?hr ?hp (fun _ hk => hk) trivial (Below.refl _ _) (Nat.le_refl _) (by simp) ?_; (case hd => rfl); (case hg => rfl); (case hr => first | (go_simp; done) | (go_simp; rfl)); (case hp => exact (Reps.one (show Kd.M Kd.string _ _ _ (⟨#[111, 107]⟩ : ByteArray) [.string (⟨#[111, 107]⟩ : ByteArray)] from rfl) (Reps.one (show Kd.M Kd.string _ _ _ (⟨#[102, 111, 114, 109]⟩ : ByteArray) [.string (⟨#[102, 111, 114, 109]⟩ : ByteArray)] from rfl) (Reps.one (show Kd.M Kd.string _ _ _ (⟨#[115, 116, 97, 108, 101]⟩ : ByteArray) [.string (⟨#[115, 116, 97, 108, 101]⟩ : ByteArray)] from rfl) (Reps.one (show Kd.M Kd.string _ _ _ (⟨#[100, 101, 101, 112]⟩ : ByteArray) [.string (⟨#[100, 101, 101, 112]⟩ : ByteArray)] from rfl) (Reps.one (show Kd.M Kd.string _ _ _ (⟨#[114, 111, 111, 109, 115]⟩ : ByteArray) [.string (⟨#[114, 111, 111, 109, 115]⟩ : ByteArray)] from rfl) (Reps.one (show Kd.M Kd.string _ _ _ (⟨#[102, 117, 108, 108]⟩ : ByteArray) [.string (⟨#[102, 117, 108, 108]⟩ : ByteArray)] from rfl) (Reps.one (show Kd.M Kd.string _ _ _ (⟨#[102, 114, 97, 103]⟩ : ByteArray) [.string (⟨#[102, 114, 97, 103]⟩ : ByteArray)] from rfl) (Reps.one (show Kd.M Kd.string _ _ _ (⟨#[114, 97, 110, 103, 101]⟩ : ByteArray) [.string (⟨#[114, 97, 110, 103, 101]⟩ : ByteArray)] from rfl) (Reps.one (show Kd.M Kd.string _ _ _ (⟨#[109, 97, 110, 121]⟩ : ByteArray) [.string (⟨#[109, 97, 110, 121]⟩ : ByteArray)] from rfl) (Reps.none _ _))))))))))); intro v102 w9 ho10 hb hg_ hnew_; clear hg_ hnew_; (first | rw [← Ny101.out] at ho10 | (simp only [Int.reduceToNat] at ho10; rw [← Ny101.out] at ho10)); have n0_ := Aside0.mk (Kd.R_lower ho10 (below_size (by repeat (first | (with_reducible first | exact HB.out | apply below_alloc | apply pw_below_drewN | apply below_drew1) | exact HB.out)))); have n1_ := Aside0.mk (below_step (by repeat (first | (with_reducible first | exact HB.out | apply below_alloc | apply pw_below_drewN | apply below_drew1) | exact HB.out)) hb); clear HB; have HO103 := n0_; have HB := n1_; clear n0_ n1_; clear hb ho10; obtain ⟨Ao11, co11, eo11⟩ := Kd.R_slice HO103.out; subst eo11) | ((with_reducible refine gate_callee (f := 56) rfl ?_); refine goesL_ (some 9) rfl rfl Try.func56 (by kernel_rfl) rfl #[.int .i64 a0, .int .i64 0, .int .i64 (wrap64 ((y101.length : Int) - 1))] rfl (by (try simp only [List.map_toArray, List.map_cons, List.map_nil]); first | done | rfl | (simp only [List.length_drop, List.length_take]; rfl)) ?_; (with_reducible refine (spec_l1In.calls a0 0 (wrap64 ((y101.length : Int) - 1)) false _ A2.out).mono ?_); rintro e w' ⟨rfl, ⟨nd, rfl⟩⟩; refine ⟨_, rfl, ?_⟩))
    go_ret
    exact ⟨by first | rfl | (simp [errW_none, errW_some] <;> rfl) | (simp [*, errW_none, errW_some] <;> rfl), by repeat (first | (with_reducible first | exact HB.out | apply below_alloc | apply pw_below_drewN | apply below_drew1) | exact HB.out)⟩

/-! ### impl_within: function 57 -/
def impl_within.f (a0 : Int) (a1 : Int) (a2 : Int) : Option (Bool) := if a0 ≥ a1 then (some (decide (a0 ≤ a2))) else (some false)
set_option maxHeartbeats 8000000 in
set_option maxRecDepth 100000 in
theorem impl_within.calls (a0 : Int) (a1 : Int) (a2 : Int) (r : Bool) (w : World) (h : impl_within.f a0 a1 a2 = some r) :
    Calls Try.prog 57 #[.int .i64 a0, .int .i64 a1, .int .i64 a2] w fun e w' => e = .returned (.bool r) ∧ Drawn0 w w' := by
  have H : (if a0 ≥ a1 then (some (decide (a0 ≤ a2))) else (some false)) = some r := h
  clear h
  by_cases c4 : a0 ≥ a1
  · rw [if_pos c4] at H
    have c4b0 : decide (a1 ≤ a0) = true := decide_eq_true c4
    clear c4
    obtain rfl := Option.some.inj H
    go_enter Try.func57, Try.ntmps57
    go_wp2
    go_ret
    exact ⟨by first | rfl | (simp; done) | (simp [*]; done), by repeat (first | exact Drawn0.refl _ | apply Drawn0.step)⟩
  · rw [if_neg c4] at H
    have c4b0 : decide (a1 ≤ a0) = false := decide_eq_false c4
    clear c4
    obtain rfl := Option.some.inj H
    go_enter Try.func57, Try.ntmps57
    go_wp2
    go_ret
    exact ⟨by first | rfl | (simp; done) | (simp [*]; done), by repeat (first | exact Drawn0.refl _ | apply Drawn0.step)⟩

/-! ### impl_CodeName: function 14 (by hand) -/
def impl_CodeName.names : List ByteArray := [(⟨#[111, 107]⟩ : ByteArray), (⟨#[102, 111, 114, 109]⟩ : ByteArray), (⟨#[115, 116, 97, 108, 101]⟩ : ByteArray), (⟨#[100, 101, 101, 112]⟩ : ByteArray), (⟨#[114, 111, 111, 109, 115]⟩ : ByteArray), (⟨#[102, 117, 108, 108]⟩ : ByteArray), (⟨#[102, 114, 97, 103]⟩ : ByteArray), (⟨#[114, 97, 110, 103, 101]⟩ : ByteArray), (⟨#[109, 97, 110, 121]⟩ : ByteArray)]
def impl_CodeName.f (a0 : Int) : Option (ByteArray) := (impl_within.f a0 0 8).bind fun t => if t = true then some (rdOf ByteArray.empty impl_CodeName.names a0) else some (⟨#[]⟩ : ByteArray)
set_option maxHeartbeats 8000000 in
set_option maxRecDepth 100000 in
theorem impl_CodeName.calls (a0 : Int) (r : ByteArray) (w : World) (h : impl_CodeName.f a0 = some r) :
    Calls Try.prog 14 #[.int .i64 a0] w fun e w' => e = .returned (.string r) ∧ Below w.heap.size w w' := by
  have H : ((impl_within.f a0 0 8).bind fun t => if t = true then some (rdOf ByteArray.empty impl_CodeName.names a0) else some (⟨#[]⟩ : ByteArray)) = some r := h
  clear h
  obtain ⟨t, hA, H⟩ := Option.bind_eq_some_iff.mp H
  have A4 := Aside0.mk hA
  by_cases c : t = true
  · subst c
    rw [if_pos rfl] at H
    have hr : 0 ≤ a0 ∧ a0 ≤ 8 := by
      have hA' : (if a0 ≥ 0 then (some (decide (a0 ≤ 8))) else (some false)) = some true := hA
      by_cases c0 : a0 ≥ 0
      · rw [if_pos c0] at hA'
        exact ⟨c0, of_decide_eq_true (Option.some.inj hA')⟩
      · rw [if_neg c0] at hA'
        cases hA'
    clear hA
    have hs : a0 = 0 ∨ a0 = 1 ∨ a0 = 2 ∨ a0 = 3 ∨ a0 = 4 ∨ a0 = 5 ∨ a0 = 6 ∨ a0 = 7 ∨ a0 = 8 := by omega
    clear hr
    have hr := Option.some.inj H
    clear H
    rcases hs with rfl | rfl | rfl | rfl | rfl | rfl | rfl | rfl | rfl
    · subst hr
      have hix : ∀ w : World, (Instr.index 67 (.agg #[.string ⟨#[111, 107]⟩, .string ⟨#[102, 111, 114, 109]⟩, .string ⟨#[115, 116, 97, 108, 101]⟩, .string ⟨#[100, 101, 101, 112]⟩, .string ⟨#[114, 111, 111, 109, 115]⟩, .string ⟨#[102, 117, 108, 108]⟩, .string ⟨#[102, 114, 97, 103]⟩, .string ⟨#[114, 97, 110, 103, 101]⟩, .string ⟨#[109, 97, 110, 121]⟩]) (.int .i64 0)).run Try.prog w = .ok (.string ⟨#[111, 107]⟩) w := fun w => by kernel_rfl
      go_enter Try.func14, Try.ntmps14
      go_wp2_with (first | (go_at_call 57; refine (impl_within.calls _ _ _ true _ A4.out).mono ?_; rintro e w' ⟨rfl, ⟨nd, rfl⟩⟩) | simp only [hix])
      go_ret
      exact ⟨by first | rfl | (simp; done) | (simp [*]; done), pw_below_drewN (Below.refl _ _) _⟩
    · subst hr
      have hix : ∀ w : World, (Instr.index 67 (.agg #[.string ⟨#[111, 107]⟩, .string ⟨#[102, 111, 114, 109]⟩, .string ⟨#[115, 116, 97, 108, 101]⟩, .string ⟨#[100, 101, 101, 112]⟩, .string ⟨#[114, 111, 111, 109, 115]⟩, .string ⟨#[102, 117, 108, 108]⟩, .string ⟨#[102, 114, 97, 103]⟩, .string ⟨#[114, 97, 110, 103, 101]⟩, .string ⟨#[109, 97, 110, 121]⟩]) (.int .i64 1)).run Try.prog w = .ok (.string ⟨#[102, 111, 114, 109]⟩) w := fun w => by kernel_rfl
      go_enter Try.func14, Try.ntmps14
      go_wp2_with (first | (go_at_call 57; refine (impl_within.calls _ _ _ true _ A4.out).mono ?_; rintro e w' ⟨rfl, ⟨nd, rfl⟩⟩) | simp only [hix])
      go_ret
      exact ⟨by first | rfl | (simp; done) | (simp [*]; done), pw_below_drewN (Below.refl _ _) _⟩
    · subst hr
      have hix : ∀ w : World, (Instr.index 67 (.agg #[.string ⟨#[111, 107]⟩, .string ⟨#[102, 111, 114, 109]⟩, .string ⟨#[115, 116, 97, 108, 101]⟩, .string ⟨#[100, 101, 101, 112]⟩, .string ⟨#[114, 111, 111, 109, 115]⟩, .string ⟨#[102, 117, 108, 108]⟩, .string ⟨#[102, 114, 97, 103]⟩, .string ⟨#[114, 97, 110, 103, 101]⟩, .string ⟨#[109, 97, 110, 121]⟩]) (.int .i64 2)).run Try.prog w = .ok (.string ⟨#[115, 116, 97, 108, 101]⟩) w := fun w => by kernel_rfl
      go_enter Try.func14, Try.ntmps14
      go_wp2_with (first | (go_at_call 57; refine (impl_within.calls _ _ _ true _ A4.out).mono ?_; rintro e w' ⟨rfl, ⟨nd, rfl⟩⟩) | simp only [hix])
      go_ret
      exact ⟨by first | rfl | (simp; done) | (simp [*]; done), pw_below_drewN (Below.refl _ _) _⟩
    · subst hr
      have hix : ∀ w : World, (Instr.index 67 (.agg #[.string ⟨#[111, 107]⟩, .string ⟨#[102, 111, 114, 109]⟩, .string ⟨#[115, 116, 97, 108, 101]⟩, .string ⟨#[100, 101, 101, 112]⟩, .string ⟨#[114, 111, 111, 109, 115]⟩, .string ⟨#[102, 117, 108, 108]⟩, .string ⟨#[102, 114, 97, 103]⟩, .string ⟨#[114, 97, 110, 103, 101]⟩, .string ⟨#[109, 97, 110, 121]⟩]) (.int .i64 3)).run Try.prog w = .ok (.string ⟨#[100, 101, 101, 112]⟩) w := fun w => by kernel_rfl
      go_enter Try.func14, Try.ntmps14
      go_wp2_with (first | (go_at_call 57; refine (impl_within.calls _ _ _ true _ A4.out).mono ?_; rintro e w' ⟨rfl, ⟨nd, rfl⟩⟩) | simp only [hix])
      go_ret
      exact ⟨by first | rfl | (simp; done) | (simp [*]; done), pw_below_drewN (Below.refl _ _) _⟩
    · subst hr
      have hix : ∀ w : World, (Instr.index 67 (.agg #[.string ⟨#[111, 107]⟩, .string ⟨#[102, 111, 114, 109]⟩, .string ⟨#[115, 116, 97, 108, 101]⟩, .string ⟨#[100, 101, 101, 112]⟩, .string ⟨#[114, 111, 111, 109, 115]⟩, .string ⟨#[102, 117, 108, 108]⟩, .string ⟨#[102, 114, 97, 103]⟩, .string ⟨#[114, 97, 110, 103, 101]⟩, .string ⟨#[109, 97, 110, 121]⟩]) (.int .i64 4)).run Try.prog w = .ok (.string ⟨#[114, 111, 111, 109, 115]⟩) w := fun w => by kernel_rfl
      go_enter Try.func14, Try.ntmps14
      go_wp2_with (first | (go_at_call 57; refine (impl_within.calls _ _ _ true _ A4.out).mono ?_; rintro e w' ⟨rfl, ⟨nd, rfl⟩⟩) | simp only [hix])
      go_ret
      exact ⟨by first | rfl | (simp; done) | (simp [*]; done), pw_below_drewN (Below.refl _ _) _⟩
    · subst hr
      have hix : ∀ w : World, (Instr.index 67 (.agg #[.string ⟨#[111, 107]⟩, .string ⟨#[102, 111, 114, 109]⟩, .string ⟨#[115, 116, 97, 108, 101]⟩, .string ⟨#[100, 101, 101, 112]⟩, .string ⟨#[114, 111, 111, 109, 115]⟩, .string ⟨#[102, 117, 108, 108]⟩, .string ⟨#[102, 114, 97, 103]⟩, .string ⟨#[114, 97, 110, 103, 101]⟩, .string ⟨#[109, 97, 110, 121]⟩]) (.int .i64 5)).run Try.prog w = .ok (.string ⟨#[102, 117, 108, 108]⟩) w := fun w => by kernel_rfl
      go_enter Try.func14, Try.ntmps14
      go_wp2_with (first | (go_at_call 57; refine (impl_within.calls _ _ _ true _ A4.out).mono ?_; rintro e w' ⟨rfl, ⟨nd, rfl⟩⟩) | simp only [hix])
      go_ret
      exact ⟨by first | rfl | (simp; done) | (simp [*]; done), pw_below_drewN (Below.refl _ _) _⟩
    · subst hr
      have hix : ∀ w : World, (Instr.index 67 (.agg #[.string ⟨#[111, 107]⟩, .string ⟨#[102, 111, 114, 109]⟩, .string ⟨#[115, 116, 97, 108, 101]⟩, .string ⟨#[100, 101, 101, 112]⟩, .string ⟨#[114, 111, 111, 109, 115]⟩, .string ⟨#[102, 117, 108, 108]⟩, .string ⟨#[102, 114, 97, 103]⟩, .string ⟨#[114, 97, 110, 103, 101]⟩, .string ⟨#[109, 97, 110, 121]⟩]) (.int .i64 6)).run Try.prog w = .ok (.string ⟨#[102, 114, 97, 103]⟩) w := fun w => by kernel_rfl
      go_enter Try.func14, Try.ntmps14
      go_wp2_with (first | (go_at_call 57; refine (impl_within.calls _ _ _ true _ A4.out).mono ?_; rintro e w' ⟨rfl, ⟨nd, rfl⟩⟩) | simp only [hix])
      go_ret
      exact ⟨by first | rfl | (simp; done) | (simp [*]; done), pw_below_drewN (Below.refl _ _) _⟩
    · subst hr
      have hix : ∀ w : World, (Instr.index 67 (.agg #[.string ⟨#[111, 107]⟩, .string ⟨#[102, 111, 114, 109]⟩, .string ⟨#[115, 116, 97, 108, 101]⟩, .string ⟨#[100, 101, 101, 112]⟩, .string ⟨#[114, 111, 111, 109, 115]⟩, .string ⟨#[102, 117, 108, 108]⟩, .string ⟨#[102, 114, 97, 103]⟩, .string ⟨#[114, 97, 110, 103, 101]⟩, .string ⟨#[109, 97, 110, 121]⟩]) (.int .i64 7)).run Try.prog w = .ok (.string ⟨#[114, 97, 110, 103, 101]⟩) w := fun w => by kernel_rfl
      go_enter Try.func14, Try.ntmps14
      go_wp2_with (first | (go_at_call 57; refine (impl_within.calls _ _ _ true _ A4.out).mono ?_; rintro e w' ⟨rfl, ⟨nd, rfl⟩⟩) | simp only [hix])
      go_ret
      exact ⟨by first | rfl | (simp; done) | (simp [*]; done), pw_below_drewN (Below.refl _ _) _⟩
    · subst hr
      have hix : ∀ w : World, (Instr.index 67 (.agg #[.string ⟨#[111, 107]⟩, .string ⟨#[102, 111, 114, 109]⟩, .string ⟨#[115, 116, 97, 108, 101]⟩, .string ⟨#[100, 101, 101, 112]⟩, .string ⟨#[114, 111, 111, 109, 115]⟩, .string ⟨#[102, 117, 108, 108]⟩, .string ⟨#[102, 114, 97, 103]⟩, .string ⟨#[114, 97, 110, 103, 101]⟩, .string ⟨#[109, 97, 110, 121]⟩]) (.int .i64 8)).run Try.prog w = .ok (.string ⟨#[109, 97, 110, 121]⟩) w := fun w => by kernel_rfl
      go_enter Try.func14, Try.ntmps14
      go_wp2_with (first | (go_at_call 57; refine (impl_within.calls _ _ _ true _ A4.out).mono ?_; rintro e w' ⟨rfl, ⟨nd, rfl⟩⟩) | simp only [hix])
      go_ret
      exact ⟨by first | rfl | (simp; done) | (simp [*]; done), pw_below_drewN (Below.refl _ _) _⟩
  · obtain rfl := Bool.eq_false_iff.mpr c
    rw [if_neg (by decide)] at H
    obtain rfl := Option.some.inj H
    clear hA
    go_enter Try.func14, Try.ntmps14
    go_wp2_with (go_at_call 57; refine (impl_within.calls _ _ _ false _ A4.out).mono ?_; rintro e w' ⟨rfl, ⟨nd, rfl⟩⟩)
    go_ret
    exact ⟨by first | rfl | (simp; done) | (simp [*]; done), pw_below_drewN (Below.refl _ _) _⟩

/-! ### laws_FnExactCodeName: function 3 -/
def laws_FnExactCodeName.f (a0 : Int) : Option (Bool) := (spec_CodeName.f a0).bind fun t106 => ((impl_CodeName.f a0).bind fun t107 => (if t107.toList = t106.toList then (some true) else (none)))
set_option maxHeartbeats 8000000 in
set_option maxRecDepth 100000 in
theorem laws_FnExactCodeName.calls (a0 : Int) (r : Bool) (w : World) (h : laws_FnExactCodeName.f a0 = some r) :
    Calls Try.prog 3 #[.int .i64 a0] w fun e w' => e = .returned (.bool r) ∧ Below w.heap.size w w' := by
  have HB := Aside0.mk (Below.refl w.heap.size w)
  have H : ((spec_CodeName.f a0).bind fun t106 => ((impl_CodeName.f a0).bind fun t107 => (if t107.toList = t106.toList then (some true) else (none)))) = some r := h
  clear h
  replace H := Option.bind_eq_some_iff.mp H
  obtain ⟨t106, A20, H⟩ := H
  replace H : ((impl_CodeName.f a0).bind fun t107 => (if t107.toList = t106.toList then (some true) else (none))) = some r := H
  have A2 := Aside0.mk A20
  clear A20
  replace H := Option.bind_eq_some_iff.mp H
  obtain ⟨t107, A30, H⟩ := H
  replace H : (if t107.toList = t106.toList then (some true) else (none)) = some r := H
  have A3 := Aside0.mk A30
  clear A30
  by_cases c4 : t107.toList = t106.toList
  · rw [if_pos c4] at H
    have c4b0 : (t107.toList == t106.toList) = true := beq_iff_eq.mpr c4
    have c4b1 : (t107.toList != t106.toList) = false := bne_eq_false_iff_eq.mpr c4
    clear c4
    obtain rfl := Option.some.inj H
    go_enter Try.func3, Try.ntmps3
    go_wp2_with (first | ((with_reducible refine gate_callee (f := 13) rfl ?_); refine goesL_ (some 6) rfl rfl Try.func13 (by kernel_rfl) rfl #[.int .i64 a0] rfl (by (try simp only [List.map_toArray, List.map_cons, List.map_nil]); first | done | rfl | (simp only [List.length_drop, List.length_take]; rfl)) ?_; (with_reducible refine (spec_CodeName.calls a0 t106 _ A2.out).mono ?_); rintro e w5 ⟨rfl, hb⟩; refine ⟨_, rfl, ?_⟩; have n0_ := Aside0.mk (below_step (by repeat (first | (with_reducible first | exact HB.out | apply below_alloc | apply pw_below_drewN | apply below_drew1) | exact HB.out)) hb); clear HB; have HB := n0_; clear n0_; (try clear hb); (try clear hb2); (try clear hk); (try clear hi)) | ((with_reducible refine gate_callee (f := 14) rfl ?_); refine goesL_ (some 8) rfl rfl Try.func14 (by kernel_rfl) rfl #[.int .i64 a0] rfl (by (try simp only [List.map_toArray, List.map_cons, List.map_nil]); first | done | rfl | (simp only [List.length_drop, List.length_take]; rfl)) ?_; (with_reducible refine (impl_CodeName.calls a0 t107 _ A3.out).mono ?_); rintro e w6 ⟨rfl, hb⟩; refine ⟨_, rfl, ?_⟩; have n0_ := Aside0.mk (below_step (by repeat (first | (with_reducible first | exact HB.out | apply below_alloc | apply pw_below_drewN | apply below_drew1) | exact HB.out)) hb); clear HB; have HB := n0_; clear n0_; (try clear hb); (try clear hb2); (try clear hk); (try clear hi)))
    go_ret
    exact ⟨by first | rfl | (simp [errW_none, errW_some] <;> rfl) | (simp [*, errW_none, errW_some] <;> rfl), by repeat (first | (with_reducible first | exact HB.out | apply below_alloc | apply pw_below_drewN | apply below_drew1) | exact HB.out)⟩
  · rw [if_neg c4] at H
    exact absurd H (by simp)

/-- THE ONE PURE STATEMENT of laws_FnExactCodeName: yours. -/
def laws_FnExactCodeName.Pure : Prop := ∀ (a0 : Int), (Lit.int .i64 a0).wf = true → laws_FnExactCodeName.f a0 = some true
theorem laws_FnExactCodeName.walk (P : laws_FnExactCodeName.Pure) (a0 : Int) (w : World) (w0 : (Lit.int .i64 a0).wf = true) :
    Calls Try.prog 3 #[.int .i64 a0] w fun e w' => e = .returned (.bool true) ∧ Below w.heap.size w w' := by
  have h := P a0 w0
  refine (laws_FnExactCodeName.calls a0 true w h).mono ?_
  rintro e w' ⟨rfl, hd⟩
  exact ⟨rfl, hd⟩

end Go.Proofs.Ytamelcmioliapaa.QFnExactCodeName
