/- What the functions that the law FnTables reaches compute, as plain functions, and that the code computes just that (by a program of this session's; the library's functions by hand). No condition. -/
import Derived.Test.YtofpmdgndegalabQFnTablesx0
import Derived.Test.YtofpmdgndegalabQFnTablesx3
import Derived.Test.YtofpmdgndegalabQFnTablesx6
namespace Go.Proofs.Ytofpmdgndegalab.QFnTables
open Go.RowKit Go.Proofs.YtofpmdgndegalabW.PrintWords Go.Proofs.YtofpmdgndegalabW.PrintLast Go.Proofs.YtofpmdgndegalabW.PrintMore
attribute [local go_sem] max2_int min2_int max_two min_two max_three min_three max_four min_four   -- for this text's walks alone
set_option linter.unusedVariables false
set_option linter.unusedSimpArgs false

/-! ### impl_ConfOk: function 37 -/
def impl_ConfOk.f (a0_0 : Int) (a0_1 : Int) (a0_2 : Int) (a0_3 : Int) (a0_4 : Int) (a0_5 : Int) : Option (Bool) := (impl_within.f a0_0 2 12).bind fun t595 => (if t595 = true then ((impl_within.f a0_1 8 16).bind fun t596 => (if t596 = true then ((impl_within.f a0_2 2 8).bind fun t597 => (if t597 = true then ((impl_within.f a0_3 1 8).bind fun t598 => (if t598 = true then ((impl_within.f a0_4 1 16).bind fun t599 => (if t599 = true then ((impl_within.f a0_5 1 4).bind fun t600 => (some t600)) else (some false))) else (some false))) else (some false))) else (some false))) else (some false))
set_option maxHeartbeats 8000000 in
set_option maxRecDepth 100000 in
theorem impl_ConfOk.calls (a0_0 : Int) (a0_1 : Int) (a0_2 : Int) (a0_3 : Int) (a0_4 : Int) (a0_5 : Int) (r : Bool) (w : World) (h : impl_ConfOk.f a0_0 a0_1 a0_2 a0_3 a0_4 a0_5 = some r) :
  Calls Try.prog 37 #[.agg #[.int .i64 a0_0, .int .i64 a0_1, .int .i64 a0_2, .int .i64 a0_3, .int .i64 a0_4, .int .i64 a0_5]] w fun e w' => e = .returned (.bool r) ∧ Below w.heap.size w w' := by
 have hu33 := Try.underlying33
 have HB := Aside0.mk (Below.refl w.heap.size w)
 have H : ((impl_within.f a0_0 2 12).bind fun t595 => (if t595 = true then ((impl_within.f a0_1 8 16).bind fun t596 => (if t596 = true then ((impl_within.f a0_2 2 8).bind fun t597 => (if t597 = true then ((impl_within.f a0_3 1 8).bind fun t598 => (if t598 = true then ((impl_within.f a0_4 1 16).bind fun t599 => (if t599 = true then ((impl_within.f a0_5 1 4).bind fun t600 => (some t600)) else (some false))) else (some false))) else (some false))) else (some false))) else (some false))) = some r := h
 clear h
 replace H := Option.bind_eq_some_iff.mp H
 obtain ⟨t595, A20, H⟩ := H
 try dsimp only at H
 have A2 := Aside0.mk A20
 clear A20
 by_cases c3 : t595 = true
 rotate_left
 ·replace c3 := Bool.eq_false_iff.mpr c3
  subst c3
  rw [if_neg (show ¬ (false = true) by decide)] at H
  obtain rfl := Option.some.inj H
  go_enter Try.func37, Try.ntmps37
  go_wp2_with (first | ((with_reducible refine gate_dst (N := 1) rfl ?_); refine box_ev 1 #[.int .i64 a0_0, .int .i64 a0_1, .int .i64 a0_2, .int .i64 a0_3, .int .i64 a0_4, .int .i64 a0_5] 33 ?_; intro gb594 hg w23 hbox hb; have BK594 := Aside0.mk (hbox); have GW594 := Aside0.mk ((q48t : w.heap.size ≤ gb594)); have GE594 := Aside0.mk ((q48t : w.heap.size ≤ gb594)); replace HB := Aside0.mk (below_step q53t hb); clear hb hbox hg; obtain ⟨hcz24_0, hcz24_1, hcz24_2, hcz24_3, hcz24_4, hcz24_5⟩ := qc6 BK594.out; obtain ⟨hfz24_0, hfz24_1, hfz24_2, hfz24_3, hfz24_4, hfz24_5⟩ := qf6 BK594.out) | ((with_reducible refine gate_callee (f := 49) rfl ?_); refine goesL_ (some 5) rfl rfl Try.func49 (by kernel_rfl) rfl #[.int .i64 a0_0, .int .i64 2, .int .i64 12] rfl q51t ?_; (with_reducible refine (impl_within.calls a0_0 2 12 false _ A2.out).mono ?_); rintro e w' ⟨rfl, ⟨nd, rfl⟩⟩; refine ⟨_, rfl, ?_⟩))
  go_ret
  exact ⟨q73t, q33t⟩
 subst c3
 rw [if_pos rfl] at H
 replace H := Option.bind_eq_some_iff.mp H
 obtain ⟨t596, A40, H⟩ := H
 try dsimp only at H
 have A4 := Aside0.mk A40
 clear A40
 by_cases c5 : t596 = true
 rotate_left
 ·replace c5 := Bool.eq_false_iff.mpr c5
  subst c5
  rw [if_neg (show ¬ (false = true) by decide)] at H
  obtain rfl := Option.some.inj H
  go_enter Try.func37, Try.ntmps37
  go_wp2_with (first | ((with_reducible refine gate_dst (N := 1) rfl ?_); refine box_ev 1 #[.int .i64 a0_0, .int .i64 a0_1, .int .i64 a0_2, .int .i64 a0_3, .int .i64 a0_4, .int .i64 a0_5] 33 ?_; intro gb594 hg w21 hbox hb; have BK594 := Aside0.mk (hbox); have GW594 := Aside0.mk ((q48t : w.heap.size ≤ gb594)); have GE594 := Aside0.mk ((q48t : w.heap.size ≤ gb594)); replace HB := Aside0.mk (below_step q53t hb); clear hb hbox hg; obtain ⟨hcz22_0, hcz22_1, hcz22_2, hcz22_3, hcz22_4, hcz22_5⟩ := qc6 BK594.out; obtain ⟨hfz22_0, hfz22_1, hfz22_2, hfz22_3, hfz22_4, hfz22_5⟩ := qf6 BK594.out) | ((with_reducible refine gate_callee (f := 49) rfl ?_); refine goesL_ (some 5) rfl rfl Try.func49 (by kernel_rfl) rfl #[.int .i64 a0_0, .int .i64 2, .int .i64 12] rfl q51t ?_; (with_reducible refine (impl_within.calls a0_0 2 12 true _ A2.out).mono ?_); rintro e w' ⟨rfl, ⟨nd, rfl⟩⟩; refine ⟨_, rfl, ?_⟩) | (go_at_call 49; (with_reducible refine (impl_within.calls a0_1 8 16 false _ A4.out).mono ?_); rintro e w' ⟨rfl, ⟨nd, rfl⟩⟩))
  go_ret
  exact ⟨q73t, q33t⟩
 subst c5
 rw [if_pos rfl] at H
 replace H := Option.bind_eq_some_iff.mp H
 obtain ⟨t597, A60, H⟩ := H
 try dsimp only at H
 have A6 := Aside0.mk A60
 clear A60
 by_cases c7 : t597 = true
 rotate_left
 ·replace c7 := Bool.eq_false_iff.mpr c7
  subst c7
  rw [if_neg (show ¬ (false = true) by decide)] at H
  obtain rfl := Option.some.inj H
  go_enter Try.func37, Try.ntmps37
  go_wp2_with (first | ((with_reducible refine gate_dst (N := 1) rfl ?_); refine box_ev 1 #[.int .i64 a0_0, .int .i64 a0_1, .int .i64 a0_2, .int .i64 a0_3, .int .i64 a0_4, .int .i64 a0_5] 33 ?_; intro gb594 hg w19 hbox hb; have BK594 := Aside0.mk (hbox); have GW594 := Aside0.mk ((q48t : w.heap.size ≤ gb594)); have GE594 := Aside0.mk ((q48t : w.heap.size ≤ gb594)); replace HB := Aside0.mk (below_step q53t hb); clear hb hbox hg; obtain ⟨hcz20_0, hcz20_1, hcz20_2, hcz20_3, hcz20_4, hcz20_5⟩ := qc6 BK594.out; obtain ⟨hfz20_0, hfz20_1, hfz20_2, hfz20_3, hfz20_4, hfz20_5⟩ := qf6 BK594.out) | ((with_reducible refine gate_callee (f := 49) rfl ?_); refine goesL_ (some 5) rfl rfl Try.func49 (by kernel_rfl) rfl #[.int .i64 a0_0, .int .i64 2, .int .i64 12] rfl q51t ?_; (with_reducible refine (impl_within.calls a0_0 2 12 true _ A2.out).mono ?_); rintro e w' ⟨rfl, ⟨nd, rfl⟩⟩; refine ⟨_, rfl, ?_⟩) | (go_at_call 49; (with_reducible refine (impl_within.calls a0_1 8 16 true _ A4.out).mono ?_); rintro e w' ⟨rfl, ⟨nd, rfl⟩⟩) | (go_at_call 49; (with_reducible refine (impl_within.calls a0_2 2 8 false _ A6.out).mono ?_); rintro e w' ⟨rfl, ⟨nd, rfl⟩⟩))
  go_ret
  exact ⟨q73t, q33t⟩
 subst c7
 rw [if_pos rfl] at H
 replace H := Option.bind_eq_some_iff.mp H
 obtain ⟨t598, A80, H⟩ := H
 try dsimp only at H
 have A8 := Aside0.mk A80
 clear A80
 by_cases c9 : t598 = true
 ·subst c9
  rw [if_pos rfl] at H
  replace H := Option.bind_eq_some_iff.mp H
  obtain ⟨t599, A100, H⟩ := H
  try dsimp only at H
  have A10 := Aside0.mk A100
  clear A100
  by_cases c11 : t599 = true
  ·subst c11
   rw [if_pos rfl] at H
   replace H := Option.bind_eq_some_iff.mp H
   obtain ⟨t600, A120, H⟩ := H
   try dsimp only at H
   have A12 := Aside0.mk A120
   clear A120
   obtain rfl := Option.some.inj H
   go_enter Try.func37, Try.ntmps37
   go_wp2_with (first | ((with_reducible refine gate_dst (N := 1) rfl ?_); refine box_ev 1 #[.int .i64 a0_0, .int .i64 a0_1, .int .i64 a0_2, .int .i64 a0_3, .int .i64 a0_4, .int .i64 a0_5] 33 ?_; intro gb594 hg w13 hbox hb; have BK594 := Aside0.mk (hbox); have GW594 := Aside0.mk ((q48t : w.heap.size ≤ gb594)); have GE594 := Aside0.mk ((q48t : w.heap.size ≤ gb594)); replace HB := Aside0.mk (below_step q53t hb); clear hb hbox hg; obtain ⟨hcz14_0, hcz14_1, hcz14_2, hcz14_3, hcz14_4, hcz14_5⟩ := qc6 BK594.out; obtain ⟨hfz14_0, hfz14_1, hfz14_2, hfz14_3, hfz14_4, hfz14_5⟩ := qf6 BK594.out) | ((with_reducible refine gate_callee (f := 49) rfl ?_); refine goesL_ (some 5) rfl rfl Try.func49 (by kernel_rfl) rfl #[.int .i64 a0_0, .int .i64 2, .int .i64 12] rfl q51t ?_; (with_reducible refine (impl_within.calls a0_0 2 12 true _ A2.out).mono ?_); rintro e w' ⟨rfl, ⟨nd, rfl⟩⟩; refine ⟨_, rfl, ?_⟩) | (go_at_call 49; (with_reducible refine (impl_within.calls a0_1 8 16 true _ A4.out).mono ?_); rintro e w' ⟨rfl, ⟨nd, rfl⟩⟩) | (go_at_call 49; (with_reducible refine (impl_within.calls a0_2 2 8 true _ A6.out).mono ?_); rintro e w' ⟨rfl, ⟨nd, rfl⟩⟩) | (go_at_call 49; (with_reducible refine (impl_within.calls a0_3 1 8 true _ A8.out).mono ?_); rintro e w' ⟨rfl, ⟨nd, rfl⟩⟩) | (go_at_call 49; (with_reducible refine (impl_within.calls a0_4 1 16 true _ A10.out).mono ?_); rintro e w' ⟨rfl, ⟨nd, rfl⟩⟩) | (go_at_call 49; (with_reducible refine (impl_within.calls a0_5 1 4 t600 _ A12.out).mono ?_); rintro e w' ⟨rfl, ⟨nd, rfl⟩⟩))
   go_ret
   exact ⟨q73t, q33t⟩
  replace c11 := Bool.eq_false_iff.mpr c11
  subst c11
  rw [if_neg (show ¬ (false = true) by decide)] at H
  obtain rfl := Option.some.inj H
  go_enter Try.func37, Try.ntmps37
  go_wp2_with (first | ((with_reducible refine gate_dst (N := 1) rfl ?_); refine box_ev 1 #[.int .i64 a0_0, .int .i64 a0_1, .int .i64 a0_2, .int .i64 a0_3, .int .i64 a0_4, .int .i64 a0_5] 33 ?_; intro gb594 hg w15 hbox hb; have BK594 := Aside0.mk (hbox); have GW594 := Aside0.mk ((q48t : w.heap.size ≤ gb594)); have GE594 := Aside0.mk ((q48t : w.heap.size ≤ gb594)); replace HB := Aside0.mk (below_step q53t hb); clear hb hbox hg; obtain ⟨hcz16_0, hcz16_1, hcz16_2, hcz16_3, hcz16_4, hcz16_5⟩ := qc6 BK594.out; obtain ⟨hfz16_0, hfz16_1, hfz16_2, hfz16_3, hfz16_4, hfz16_5⟩ := qf6 BK594.out) | ((with_reducible refine gate_callee (f := 49) rfl ?_); refine goesL_ (some 5) rfl rfl Try.func49 (by kernel_rfl) rfl #[.int .i64 a0_0, .int .i64 2, .int .i64 12] rfl q51t ?_; (with_reducible refine (impl_within.calls a0_0 2 12 true _ A2.out).mono ?_); rintro e w' ⟨rfl, ⟨nd, rfl⟩⟩; refine ⟨_, rfl, ?_⟩) | (go_at_call 49; (with_reducible refine (impl_within.calls a0_1 8 16 true _ A4.out).mono ?_); rintro e w' ⟨rfl, ⟨nd, rfl⟩⟩) | (go_at_call 49; (with_reducible refine (impl_within.calls a0_2 2 8 true _ A6.out).mono ?_); rintro e w' ⟨rfl, ⟨nd, rfl⟩⟩) | (go_at_call 49; (with_reducible refine (impl_within.calls a0_3 1 8 true _ A8.out).mono ?_); rintro e w' ⟨rfl, ⟨nd, rfl⟩⟩) | (go_at_call 49; (with_reducible refine (impl_within.calls a0_4 1 16 false _ A10.out).mono ?_); rintro e w' ⟨rfl, ⟨nd, rfl⟩⟩))
  go_ret
  exact ⟨q73t, q33t⟩
 replace c9 := Bool.eq_false_iff.mpr c9
 subst c9
 rw [if_neg (show ¬ (false = true) by decide)] at H
 obtain rfl := Option.some.inj H
 go_enter Try.func37, Try.ntmps37
 go_wp2_with (first | ((with_reducible refine gate_dst (N := 1) rfl ?_); refine box_ev 1 #[.int .i64 a0_0, .int .i64 a0_1, .int .i64 a0_2, .int .i64 a0_3, .int .i64 a0_4, .int .i64 a0_5] 33 ?_; intro gb594 hg w17 hbox hb; have BK594 := Aside0.mk (hbox); have GW594 := Aside0.mk ((q48t : w.heap.size ≤ gb594)); have GE594 := Aside0.mk ((q48t : w.heap.size ≤ gb594)); replace HB := Aside0.mk (below_step q53t hb); clear hb hbox hg; obtain ⟨hcz18_0, hcz18_1, hcz18_2, hcz18_3, hcz18_4, hcz18_5⟩ := qc6 BK594.out; obtain ⟨hfz18_0, hfz18_1, hfz18_2, hfz18_3, hfz18_4, hfz18_5⟩ := qf6 BK594.out) | ((with_reducible refine gate_callee (f := 49) rfl ?_); refine goesL_ (some 5) rfl rfl Try.func49 (by kernel_rfl) rfl #[.int .i64 a0_0, .int .i64 2, .int .i64 12] rfl q51t ?_; (with_reducible refine (impl_within.calls a0_0 2 12 true _ A2.out).mono ?_); rintro e w' ⟨rfl, ⟨nd, rfl⟩⟩; refine ⟨_, rfl, ?_⟩) | (go_at_call 49; (with_reducible refine (impl_within.calls a0_1 8 16 true _ A4.out).mono ?_); rintro e w' ⟨rfl, ⟨nd, rfl⟩⟩) | (go_at_call 49; (with_reducible refine (impl_within.calls a0_2 2 8 true _ A6.out).mono ?_); rintro e w' ⟨rfl, ⟨nd, rfl⟩⟩) | (go_at_call 49; (with_reducible refine (impl_within.calls a0_3 1 8 false _ A8.out).mono ?_); rintro e w' ⟨rfl, ⟨nd, rfl⟩⟩))
 go_ret
 exact ⟨q73t, q33t⟩

/-! ### impl_TableNew: function 16 (by hand) -/
/-- Rows of elements of many cells, told by their cells: one behind the other. -/
theorem impl_TableNew.flat_len (sz : Nat) : ∀ (xs : List (List Value)), (∀ x, x ∈ xs → x.length = sz) → xs.flatten.length = xs.length * sz
 | [], _ => by simp
 | x :: t, h => by
  rw [List.flatten_cons, List.length_append, impl_TableNew.flat_len sz t (fun y hy => h y (List.mem_cons_of_mem _ hy)), h x List.mem_cons_self, List.length_cons, Nat.succ_mul]
  omega
theorem impl_TableNew.flat_cut (sz : Nat) : ∀ (xs : List (List Value)) (i : Nat), (∀ x, x ∈ xs → x.length = sz) → xs.flatten.take (i * sz) = (xs.take i).flatten ∧ xs.flatten.drop (i * sz) = (xs.drop i).flatten
 | [], i, _ => by simp
 | x :: t, 0, _ => by simp
 | x :: t, i + 1, h => by
  obtain ⟨h1, h2⟩ := impl_TableNew.flat_cut sz t i (fun y hy => h y (List.mem_cons_of_mem _ hy))
  have hx := h x List.mem_cons_self
  have e1 : (i + 1) * sz = x.length + i * sz := by rw [hx, Nat.succ_mul]; omega
  rw [List.flatten_cons, e1, List.take_append, List.drop_append]
  have e2 : x.length + i * sz - x.length = i * sz := by omega
  rw [e2, h1, h2, List.take_of_length_le (Nat.le_add_right _ _), List.drop_of_length_le (Nat.le_add_right _ _)]
  simp
theorem impl_TableNew.flat_of {sz : Nat} : ∀ {xs : List (List Value)} {inner : List Value}, Reps (fun x cs => cs = x ∧ cs.length = sz ∧ ∀ u ∈ cs, u.oneCell' = true) sz xs inner → inner = xs.flatten ∧ ∀ x, x ∈ xs → x.length = sz ∧ ∀ u ∈ x, u.oneCell' = true
 | [], inner, h => by
  have h1 := h.1
  simp only [List.length_nil, Nat.zero_mul] at h1
  exact ⟨List.eq_nil_of_length_eq_zero h1, fun x hx => by simp at hx⟩
 | x :: t, inner, h => by
  have h0 := h.2 0 x rfl
  rw [Nat.zero_mul, List.drop_zero] at h0
  have hl := h.1
  rw [List.length_cons, Nat.succ_mul] at hl
  have ht : Reps (fun x cs => cs = x ∧ cs.length = sz ∧ ∀ u ∈ cs, u.oneCell' = true) sz t (inner.drop sz) := by
   refine ⟨(by rw [List.length_drop]; omega), fun j p hj => ?_⟩
   have h1 := h.2 (j + 1) p (by rw [List.getElem?_cons_succ]; exact hj)
   rw [List.drop_drop, show sz + j * sz = (j + 1) * sz by rw [Nat.succ_mul]; omega]
   exact h1
  obtain ⟨e1, e2⟩ := impl_TableNew.flat_of ht
  obtain ⟨a1, a2, a3⟩ := h0
  refine ⟨?_, fun y hy => ?_⟩
  ·rw [List.flatten_cons, ← e1, ← a1, List.take_append_drop]
  ·rcases List.mem_cons.mp hy with rfl | hy
   ·rw [a1] at a2 a3
    exact ⟨a2, a3⟩
   ·exact e2 y hy
theorem impl_TableNew.flat_reps {sz : Nat} {xs : List (List Value)} (h : ∀ x, x ∈ xs → x.length = sz ∧ ∀ u ∈ x, u.oneCell' = true) : Reps (fun x cs => cs = x ∧ cs.length = sz ∧ ∀ u ∈ cs, u.oneCell' = true) sz xs xs.flatten := by
 refine ⟨impl_TableNew.flat_len sz xs (fun x hx => (h x hx).1), fun j p hj => ?_⟩
 obtain ⟨hjl, rfl⟩ := List.getElem?_eq_some_iff.1 hj
 have hm : xs[j] ∈ xs := List.getElem_mem hjl
 obtain ⟨h1, h2⟩ := h _ hm
 have e : (xs.flatten.drop (j * sz)).take sz = xs[j] := by
  rw [(impl_TableNew.flat_cut sz xs j (fun x hx => (h x hx).1)).2, List.drop_eq_getElem_cons hjl, List.flatten_cons, List.take_append, h1, Nat.sub_self, List.take_zero, List.append_nil, List.take_of_length_le (Nat.le_of_eq h1)]
 rw [e]
 exact ⟨rfl, h1, h2⟩
theorem impl_TableNew.blk_own {sz e base : Nat} {w : World} {ok : Nat → Prop} {v : Value} {xs : List (List Value)} (h : (Kd.raw sz).R e w base ok v xs) : w.ownsRow base e sz v xs.length xs.flatten ∧ ∀ x, x ∈ xs → x.length = sz ∧ ∀ u ∈ x, u.oneCell' = true := by
 obtain ⟨_, inner, ho, hr⟩ := h
 obtain ⟨e1, e2⟩ := impl_TableNew.flat_of hr
 rw [e1] at ho
 exact ⟨ho, e2⟩
theorem impl_TableNew.blk_laid {sz e base g : Nat} {W : World} {ok : Nat → Prop} {v : Value} {xs ys : List (List Value)} (HO : (Kd.raw sz).R e W base ok v xs) (hy : ∀ y, y ∈ ys → y.length = sz ∧ ∀ u ∈ y, u.oneCell' = true) (hg : v.ownBlock = some g) (i : Nat) (hfit : i + ys.length ≤ xs.length) :
  (Kd.raw sz).R e (W.setCells g (i * sz) ys.flatten) base ok v (xs.take i ++ (ys ++ xs.drop (i + ys.length))) ∧ W.grownBy (W.setCells g (i * sz) ys.flatten) v.ownBlock ∧ (∀ j, j < ys.length * sz → (W.cell? ⟨g, i * sz + j, none⟩).isSome = true) ∧ (∀ j, j < ys.length * sz → W.frozen? ⟨g, i * sz + j, none⟩ = false) := by
 obtain ⟨hown, hx⟩ := impl_TableNew.blk_own HO
 have hyl := impl_TableNew.flat_len sz ys (fun y h => (hy y h).1)
 have hxl := impl_TableNew.flat_len sz xs (fun y h => (hx y h).1)
 rcases hown.2 with ⟨rfl, hx0⟩ | ⟨g', cap, cur, hv, hb, hh, hnc, hcm, hcs, htake⟩
 ·simp [Value.ownBlock] at hg
 obtain rfl : g' = g := by rw [hv] at hg; simpa [Value.ownBlock] using hg
 have hcl : cur.toList.length = cur.size := Array.length_toList
 have hm1 : i * sz + ys.length * sz ≤ xs.length * sz := by rw [← Nat.add_mul]; exact Nat.mul_le_mul_right _ hfit
 have hm2 : xs.length * sz ≤ cap * sz := Nat.mul_le_mul_right _ hnc
 obtain ⟨cur', h3, h4, h5⟩ := setCells_row ys.flatten (i * sz) W cur hh (by rw [hyl, hcs]; omega)
 obtain ⟨s1, s2, s3, s4⟩ := setCells_same g' ys.flatten (i * sz) W
 have hln : (xs.take i ++ (ys ++ xs.drop (i + ys.length))).length = xs.length := by
  rw [List.length_append, List.length_append, List.length_take, List.length_drop]
  omega
 have hall : ∀ x, x ∈ xs.take i ++ (ys ++ xs.drop (i + ys.length)) → x.length = sz ∧ ∀ u ∈ x, u.oneCell' = true := by
  intro x hm
  rcases List.mem_append.mp hm with hm | hm
  ·exact hx x (List.mem_of_mem_take hm)
  rcases List.mem_append.mp hm with hm | hm
  ·exact hy x hm
  exact hx x (List.mem_of_mem_drop hm)
 refine ⟨⟨HO.1, _, ?_, impl_TableNew.flat_reps hall⟩, ⟨s1, s2, s3, (by rw [s4]; exact Nat.le_refl _), fun k _ hk => setCells_far _ _ k (fun he => hk (by rw [hv, he]; simp [Value.ownBlock]))⟩, fun j hj => by rw [cell_of_row W g' _ cur e (0, 0) hh]; simp; omega, fun j _ => blk_frozen hh _⟩
 show (W.setCells g' (i * sz) ys.flatten).ownsRow base e sz v (xs.take i ++ (ys ++ xs.drop (i + ys.length))).length (xs.take i ++ (ys ++ xs.drop (i + ys.length))).flatten
 refine ⟨impl_TableNew.flat_len sz _ (fun x h => (hall x h).1), .inr ⟨g', cap, cur', ?_, hb, h3, by rw [hln]; exact hnc, hcm, by rw [h4, hcs], ?_⟩⟩
 ·rw [hln]; exact hv
 rw [h5, hln, List.flatten_append, List.flatten_append]
 have ht1 : (xs.take i).flatten = xs.flatten.take (i * sz) := (impl_TableNew.flat_cut sz xs i (fun x h => (hx x h).1)).1.symm
 have hd1 : (xs.drop (i + ys.length)).flatten = xs.flatten.drop ((i + ys.length) * sz) := (impl_TableNew.flat_cut sz xs (i + ys.length) (fun x h => (hx x h).1)).2.symm
 rw [ht1, hd1, ← htake, hyl, List.take_take, Nat.min_eq_left q86t, List.append_assoc, List.take_append, List.length_take, List.take_of_length_le (by rw [List.length_take]; omega), List.take_append, List.take_of_length_le (l := ys.flatten) (by rw [hyl]; omega), hyl, List.drop_take, Nat.add_mul]
 congr 3
 omega
/-- 'copy' of m elements of sz cells: ALL IS READ BEFORE ANYTHING IS WRITTEN. -/
theorem impl_TableNew.run_copy {P : Program} (w : World) (dT sT ty elem : TypeId) (b o dLen dCap : Nat) (a : Addr) (sLen sCap m sz : Nat) (cs : List Value)
  (hu : P.underlying dT = some (.slice elem)) (hs : (P.info? elem).map (·.size) = some sz) (hm : m = Nat.min sLen dLen) (hn : cs.length = m * sz)
  (hsrc : ∀ j v, cs[j]? = some v → w.cell? (a.add j) = some v) (hc : ∀ j, j < cs.length → (w.cell? ⟨b, o + j, none⟩).isSome = true) (hf : ∀ j, j < cs.length → w.frozen? ⟨b, o + j, none⟩ = false) (h1 : ∀ v ∈ cs, v.oneCell' = true) :
  (Builtin.copy_ #[dT, sT] ty #[.slice (some ⟨b, o, none⟩) dLen dCap, .slice (some a) sLen sCap]).run P w = .ok (goInt m) (w.setCells b o cs) := by
 have hl := run_loadCells_list (P := P) w a cs hsrc
 have hst := run_storeCells_cells (P := P) b o cs 0 w (by simpa using hc) (by simpa using hf) h1
 cases hq : P.info? elem with
 | none => simp [hq] at hs
 | some i =>
  have hi : i.size = sz := by simpa [hq] using hs
  simp [Builtin.copy_, run_underlying hu, Builtin.lenOf, Builtin.firstCells, sizeOf, typeInfo, hq, hi, ← hm, ← hn, hl, hst]
theorem impl_TableNew.run_copy_none {P : Program} (w : World) (dT sT ty elem : TypeId) (d a : Option Addr) (dLen dCap sLen sCap sz : Nat) (hu : P.underlying dT = some (.slice elem)) (hs : (P.info? elem).map (·.size) = some sz) (hn : Nat.min sLen dLen = 0) :
  (Builtin.copy_ #[dT, sT] ty #[.slice d dLen dCap, .slice a sLen sCap]).run P w = .ok (goInt 0) w := by
 cases hq : P.info? elem with
 | none => simp [hq] at hs
 | some i =>
  cases a with
  | none => cases d <;> simp [Builtin.copy_, run_underlying hu, Builtin.lenOf, Builtin.firstCells, sizeOf, typeInfo, hq, hn, storeCells]
  | some a =>
   have hl : Sem.run P (loadCells a 0) w = Result.ok #[] w := run_loadCells_list (P := P) w a [] (fun j v h => by simp at h)
   cases d <;> simp [Builtin.copy_, run_underlying hu, Builtin.lenOf, Builtin.firstCells, sizeOf, typeInfo, hq, hn, hl, storeCells]
theorem impl_TableNew.copyb {P : Program} {w0 W : World} (base : Nat) (t t' e ty : TypeId) (sz : Nat) (hsz0 : 0 < sz) (ht : P.underlying t = some (.slice e)) (hinfo : (P.info? e).map (·.size) = some sz)
  (v : Value) (xs ys : List (List Value)) (hy : ∀ y, y ∈ ys → y.length = sz ∧ ∀ u ∈ y, u.oneCell' = true) (i : Nat) (him : i + ys.length ≤ xs.length) (A : Option Addr) (md c ms : Nat) (hmd : ys.length = Nat.min ms md) (A2 : Option Addr) (c2 : Nat) (ok : Nat → Prop) (hA : 0 < ys.length → ∀ g, v.ownBlock = some g → A = some ⟨g, i * sz, none⟩)
  (HO : (Kd.raw sz).R e W base ok v xs) (HR : (Kd.raw sz).C W A2 ys.length ys) (HB : Below base w0 W) (hbase : base ≤ W.heap.size) :
  ∃ w1, (Builtin.copy_ #[t, t'] ty #[.slice A md c, .slice A2 ms c2]).run P W = .ok (goInt ys.length) w1 ∧ (Kd.raw sz).R e w1 base ok v (xs.take i ++ (ys ++ xs.drop (i + ys.length))) ∧ Below base w0 w1 ∧ W.grownBy w1 v.ownBlock := by
 obtain ⟨hown, hx⟩ := impl_TableNew.blk_own HO
 by_cases hm : ys.length = 0
 ·have hr := impl_TableNew.run_copy_none (P := P) W t t' ty e A A2 md c ms c2 sz ht hinfo (by rw [← hmd]; exact hm)
  obtain rfl := List.eq_nil_of_length_eq_zero hm
  exact ⟨W, hr, by simpa using HO, HB, World.grownBy.refl W _⟩
 rcases hown.2 with ⟨_, hx0⟩ | ⟨g, cap, cur, hv, _⟩
 ·omega
 have hg : v.ownBlock = some g := by rw [hv]; simp [Value.ownBlock]
 obtain rfl := hA q86t g hg
 obtain ⟨h1, h2, h3, h4⟩ := impl_TableNew.blk_laid HO hy hg i him
 obtain ⟨ad, rfl, hc⟩ := HR.2.2 q86t
 have hyl := impl_TableNew.flat_len sz ys (fun y h => (hy y h).1)
 have hr := impl_TableNew.run_copy (P := P) W t t' ty e g (i * sz) md c ad ms c2 ys.length sz ys.flatten ht hinfo hmd hyl
  (fun j u hu => by
   have hj : j < ys.length * sz := by
    rcases Nat.lt_or_ge j (ys.length * sz) with h | h
    ·exact h
    ·rw [List.getElem?_eq_none (by rw [hyl]; exact h)] at hu
     cases hu
   have hq : j / sz < ys.length := Nat.div_lt_of_lt_mul (by rw [Nat.mul_comm]; exact hj)
   obtain ⟨cs, hl, hK, hcell⟩ := hc (j / sz) ys[j / sz] (List.getElem?_eq_getElem hq)
   obtain ⟨rfl, -, -⟩ := hK
   have hl2 : ys[j / sz].length = sz := hl
   have hr : W.cell? (ad.add (j / sz * sz + j % sz)) = some u := hcell (j % sz) u (by
    have e1 : ys.flatten[j]? = ((ys.flatten.drop (j / sz * sz)).take sz)[j % sz]? := by
     rw [List.getElem?_take_of_lt (Nat.mod_lt _ hsz0), List.getElem?_drop]
     congr 1
     rw [Nat.mul_comm]
     exact (Nat.div_add_mod j sz).symm
    have e2 : (ys.flatten.drop (j / sz * sz)).take sz = ys[j / sz] := by
     rw [(impl_TableNew.flat_cut sz ys (j / sz) (fun x h => (hy x h).1)).2, List.drop_eq_getElem_cons hq, List.flatten_cons, List.take_append, hl2, Nat.sub_self, List.take_zero, List.append_nil, List.take_of_length_le (Nat.le_of_eq hl2)]
    rw [e1, e2] at hu
    exact hu)
   rw [show j / sz * sz + j % sz = j by rw [Nat.mul_comm]; exact Nat.div_add_mod j sz] at hr
   exact hr)
  (fun j hj => h3 j (by rw [hyl] at hj; exact hj)) (fun j hj => h4 j (by rw [hyl] at hj; exact hj)) (by
   intro u hu
   obtain ⟨y, hy1, hy2⟩ := List.mem_flatten.mp hu
   exact (hy y hy1).2 u hy2)
 exact ⟨_, hr, h1, HB.grown h2 hbase (own_base hown), h2⟩
theorem impl_TableNew.copyms {P : Program} {ops : Array Oper} {rest : List Oper} {o : Oper} {a : Act} {Q : Exit → Act → World → Prop} {w0 W : World} (base : Nat) (hgd : o.guard = none) (s x : Operand) (t t' e : TypeId) (sz : Nat) (hsz0 : 0 < sz)
  (ho : o.op = .call { callee := .builtin .copy, args := #[s, x], argTypes := #[t, t'] }) (ht : P.underlying t = some (.slice e)) (hinfo : (P.info? e).map (·.size) = some sz)
  (v : Value) (xs ys : List (List Value)) (hy : ∀ y, y ∈ ys → y.length = sz ∧ ∀ u ∈ y, u.oneCell' = true) (i : Nat) (him : i + ys.length ≤ xs.length) (A : Option Addr) (md c ms : Nat) (hmd : ys.length = Nat.min ms md) (A2 : Option Addr) (c2 : Nat) (ok : Nat → Prop) (hs : a.eval s = .slice A md c) (hx : a.eval x = .slice A2 ms c2) (hA : 0 < ys.length → ∀ g, v.ownBlock = some g → A = some ⟨g, i * sz, none⟩)
  (HO : (Kd.raw sz).R e W base ok v xs) (HR : (Kd.raw sz).C W A2 ys.length ys) (HB : Below base w0 W) (hbase : base ≤ W.heap.size)
  (h : ∀ w1, (Kd.raw sz).R e w1 base ok v (xs.take i ++ (ys ++ xs.drop (i + ys.length))) → Below base w0 w1 → W.grownBy w1 v.ownBlock → wpList P ops Q rest (a.put o.dst (.int .i64 (ys.length : Int))) w1) :
  wpList P ops Q (o :: rest) a W := by
 obtain ⟨w1, hr, h1, h2, h3⟩ := impl_TableNew.copyb (P := P) base t t' e o.type sz hsz0 ht hinfo v xs ys hy i him A md c ms hmd A2 c2 ok hA HO HR HB hbase
 refine wpList_plain hgd fun K hK => ?_
 unfold Oper.wp execOp
 simp only [ho, resolve, invoke, builtin, Sem.run_bind, Sem.run_pure, Result.andThen_ok, List.map_toArray, List.map_cons, List.map_nil, hs, hx, hr]
 exact hK _ _ (h w1 h1 h2 h3)
theorem impl_TableNew.stepms {P : Program} {ops : Array Oper} {o : Oper} {a : Act} {K : Act → World → Prop} {Q : Exit → Act → World → Prop} {E : Prop} {w0 W : World} (base : Nat) (hgd : o.guard = none) (s x : Operand) (t t' e : TypeId) (sz : Nat) (hsz0 : 0 < sz)
  (ho : o.op = .call { callee := .builtin .copy, args := #[s, x], argTypes := #[t, t'] }) (ht : P.underlying t = some (.slice e)) (hinfo : (P.info? e).map (·.size) = some sz)
  (v : Value) (xs ys : List (List Value)) (hy : ∀ y, y ∈ ys → y.length = sz ∧ ∀ u ∈ y, u.oneCell' = true) (i : Nat) (him : i + ys.length ≤ xs.length) (A : Option Addr) (md c ms : Nat) (hmd : ys.length = Nat.min ms md) (A2 : Option Addr) (c2 : Nat) (ok : Nat → Prop) (hs : a.eval s = .slice A md c) (hx : a.eval x = .slice A2 ms c2) (hA : 0 < ys.length → ∀ g, v.ownBlock = some g → A = some ⟨g, i * sz, none⟩)
  (HO : (Kd.raw sz).R e W base ok v xs) (HR : (Kd.raw sz).C W A2 ys.length ys) (HB : Below base w0 W) (hbase : base ≤ W.heap.size)
  (h : ∀ w1, (Kd.raw sz).R e w1 base ok v (xs.take i ++ (ys ++ xs.drop (i + ys.length))) → Below base w0 w1 → W.grownBy w1 v.ownBlock → K (a.put o.dst (.int .i64 (ys.length : Int))) w1) :
  if Region.wanted o (yielded ops a.tmps) = true then Oper.wp P o a W K Q else E := by
 have hw_ : Region.wanted o (yielded ops a.tmps) = true := by simp [Region.wanted, hgd]
 rw [if_pos hw_]
 obtain ⟨w1, hr, h1, h2, h3⟩ := impl_TableNew.copyb (P := P) base t t' e o.type sz hsz0 ht hinfo v xs ys hy i him A md c ms hmd A2 c2 ok hA HO HR HB hbase
 unfold Oper.wp execOp
 simp only [ho, resolve, invoke, builtin, Sem.run_bind, Sem.run_pure, Result.andThen_ok, List.map_toArray, List.map_cons, List.map_nil, hs, hx, hr]
 exact h w1 h1 h2 h3
theorem impl_TableNew.rowrep {α : Type} (x z : α) (c n m : Nat) (h : n + m ≤ c) : (List.replicate n x ++ List.replicate (c - n) z).take n ++ (List.replicate m x ++ (List.replicate n x ++ List.replicate (c - n) z).drop (n + (List.replicate m x).length)) = List.replicate (n + m) x ++ List.replicate (c - (n + m)) z := by
 rw [List.length_replicate, List.take_left' q87t, List.drop_append, List.drop_of_length_le q87t, List.nil_append, List.length_replicate, List.drop_replicate, ← List.append_assoc, List.replicate_append_replicate, show n + m - n = m by omega, show c - n - m = c - (n + m) by omega]
/-- Where a row of one's own begins, and where its rest from element i on does. -/
theorem impl_TableNew.head {α : Type} {d : Kd α} {e : Nat} {w : World} {base : Nat} {ok : Nat → Prop} {A : Option Addr} {n c m : Nat} {xs : List α} (h : d.R e w base ok (.slice A n c) xs) (hm : m ≤ xs.length) : 0 < m → ∀ g, (Value.slice A n c).ownBlock = some g → A = some ⟨g, 0, none⟩ := by
 intro h0 g hg
 obtain ⟨g', cap, hv, _, _, cells, _⟩ := Kd.R_form h q86t
 injection hv with h1 h2 h3
 subst h1
 obtain rfl : g' = g := by simpa [Value.ownBlock] using hg
 rfl
theorem impl_TableNew.addr {α : Type} {d : Kd α} {e : Nat} {w : World} {base : Nat} {ok : Nat → Prop} {A : Option Addr} {n c : Nat} {xs : List α} (h : d.R e w base ok (.slice A n c) xs) {i m : Nat} (hfit : i + m ≤ xs.length) (sz : Nat) :
  0 < m → ∀ g, (Value.slice A n c).ownBlock = some g → (if c = i then A else A.map (·.add (i * sz))) = some ⟨g, i * sz, none⟩ := by
 intro hm g hg
 obtain ⟨g', cap, hv, _, _, cells, _⟩ := Kd.R_form h q86t
 obtain ⟨hn, hc, _⟩ := Kd.R_reads' h
 injection hv with h1 h2 h3
 subst h1
 obtain rfl : g' = g := by simpa [Value.ownBlock] using hg
 rw [if_neg q86t, Option.map_some, add_plain]
set_option maxHeartbeats 4000000 in
theorem impl_TableNew.mul64 (y : Int) (h0 : 0 ≤ y) (h1 : y ≤ 12) (w : World) : Calls Try.prog 61 #[.int .u64 1, .int .u64 y] w fun e w' => e = .returned (.tuple #[.int .u64 0, .int .u64 y]) ∧ w = w' := by
 have hs : y = 0 ∨ y = 1 ∨ y = 2 ∨ y = 3 ∨ y = 4 ∨ y = 5 ∨ y = 6 ∨ y = 7 ∨ y = 8 ∨ y = 9 ∨ y = 10 ∨ y = 11 ∨ y = 12 := by omega
 clear h0 h1
 rcases hs with rfl | rfl | rfl | rfl | rfl | rfl | rfl | rfl | rfl | rfl | rfl | rfl | rfl
 all_goals
  go_enter Try.func61, Try.ntmps61
  go_wp2
  go_ret2
  exact ⟨rfl, rfl⟩
theorem impl_TableNew.mul (y : Int) (h0 : 0 ≤ y) (h1 : y ≤ 12) (w : World) : Calls Try.prog 54 #[.int .u64 1, .int .u64 y] w fun e w' => e = .returned (.tuple #[.int .u64 0, .int .u64 y]) ∧ w = w' := by
 go_enter Try.func54, Try.ntmps54
 go_wp2_with (go_at_call 61; refine (impl_TableNew.mul64 y h0 h1 _).mono ?_; rintro e w' ⟨rfl, rfl⟩)
 go_ret2
 exact ⟨rfl, rfl⟩
/-- The cells of a fresh node. -/
def impl_TableNew.nd (g : Int) : List Value := [.int .i64 0, .int .i64 g, .int .i64 0, .int .i64 0, .int .i64 0, .int .i64 0, .int .i64 0, .int .i64 0, .slice none 0 0, .int .i64 0, .int .i64 0, .slice none 0 0, .slice none 0 0]
theorem impl_TableNew.nd_ok (g : Int) : (impl_TableNew.nd g).length = 13 ∧ ∀ u ∈ impl_TableNew.nd g, u.oneCell' = true := by
 refine ⟨rfl, fun u hu => ?_⟩
 simp only [impl_TableNew.nd, List.mem_cons, List.not_mem_nil, or_false] at hu
 rcases hu with rfl | rfl | rfl | rfl | rfl | rfl | rfl | rfl | rfl | rfl | rfl | rfl | rfl <;> rfl
theorem impl_TableNew.rawM {sz : Nat} {w : World} {base : Nat} {ok : Nat → Prop} {x cs : List Value} (h : cs = x) (hx : x.length = sz ∧ ∀ u ∈ x, u.oneCell' = true) : (Kd.raw sz).M w base ok x cs := by
 subst h
 exact ⟨rfl, hx⟩
set_option maxHeartbeats 8000000 in
set_option maxRecDepth 100000 in
theorem impl_TableNew.rep (A0 : Option Addr) (c0 : Nat) (g a1 : Int) (w : World) (hr0 : (Kd.raw 13).C w A0 1 [impl_TableNew.nd g]) (hc0 : 1 ≤ c0) (hl : 0 ≤ a1 ∧ a1 ≤ 12) :
  Calls Try.prog 38 #[.slice A0 1 c0, .int .i64 a1] w fun e w' => ∃ v0_ : Value, e = .returned (v0_) ∧ (Kd.raw 13).R 48 w' w.heap.size (fun _ => True) v0_ (List.replicate a1.toNat (impl_TableNew.nd g)) ∧ Below w.heap.size w w' := by
 obtain ⟨h2, h3⟩ := hl
 obtain ⟨x, hx⟩ : ∃ x, x = impl_TableNew.nd g := ⟨_, rfl⟩
 obtain ⟨z, hz⟩ : ∃ z, z = impl_TableNew.nd 0 := ⟨_, rfl⟩
 have hxo : x.length = 13 ∧ ∀ u ∈ x, u.oneCell' = true := by rw [hx]; exact impl_TableNew.nd_ok g
 have hzo : z.length = 13 ∧ ∀ u ∈ z, u.oneCell' = true := by rw [hz]; exact impl_TableNew.nd_ok 0
 rw [← hx] at hr0 ⊢
 obtain ⟨c, rfl⟩ : ∃ c : Nat, a1 = (c : Int) := ⟨a1.toNat, by omega⟩
 have hc12 : c ≤ 12 := by omega
 rw [Int.toNat_natCast]
 have HR0 := Aside0.mk hr0
 have HC0 := Aside0.mk hc0
 have HZ := Aside0.mk hz
 have HXO := Aside0.mk hxo
 have HZO := Aside0.mk hzo
 clear hr0 hc0 hx hz hxo hzo
 have hw1 : IntKind.u64.wrap (c : Int) = (c : Int) := by rw [IntKind.wrap_u64]; omega
 have hw2 : wrap64 (c : Int) = (c : Int) := by unfold wrap64; omega
 have d1 : decide ((c : Int) < 0) = false := decide_eq_false q86t
 have d2 : decide ((9223372036854775807 : Int) < (c : Int)) = false := decide_eq_false q86t
 obtain ⟨m0, hm0⟩ : ∃ m0, m0 = Nat.min 1 c := ⟨_, rfl⟩
 have hm1 : m0 ≤ 1 ∧ m0 ≤ c ∧ (m0 = 0 → c = 0) := by rw [hm0, show Nat.min 1 c = min 1 c from rfl]; omega
 have hys : [x].take m0 = List.replicate m0 x := by
  rcases Nat.lt_or_ge m0 1 with h | h
  ·obtain rfl : m0 = 0 := by omega
   rfl
  obtain rfl : m0 = 1 := by omega
  rfl
 have hl0 : (List.replicate m0 x).length = m0 := List.length_replicate
 have HY : Aside0 ((Kd.raw 13).C w A0 (List.replicate m0 x).length (List.replicate m0 x)) := ⟨by rw [← hys]; exact Kd.C_take HR0.out hm1.1⟩
 have HYO : Aside0 (∀ m : Nat, ∀ y, y ∈ List.replicate m x → y.length = 13 ∧ ∀ u ∈ y, u.oneCell' = true) := ⟨fun m y hy => by rw [List.eq_of_mem_replicate hy]; exact HXO.out⟩
 have HM := Aside0.mk hm1
 have HM0 := Aside0.mk hm0
 have HH := Aside0.mk (show 0 ≤ (c : Int) ∧ c ≤ 12 from ⟨h2, hc12⟩)
 clear hm1 hm0 hys hl0
 obtain ⟨i, hi, _, hsz, _⟩ := info_parts info48
 go_enter Try.func38, Try.ntmps38
 go_wp2_with (first | (go_at_call 54; refine (impl_TableNew.mul (c : Int) h2 h3 _).mono ?_; rintro e w' ⟨rfl, rfl⟩) | ((with_reducible refine gate_dst (N := 30) rfl ?_); refine Kd.R_make (Kd.raw 13) _ 48 rfl (N := 30) rfl 24 _ _ rfl (c : Int) rfl rfl Try.underlying24 _ 152 info48 rfl q85t q86t z (ok := fun _ => True) (okp := fun _ => True) (impl_TableNew.rawM HZ.out.symm HZO.out) (fun _ hk => hk) trivial h2 (by rw [Int.toNat_natCast]; omega) (Below.refl _ _) (Nat.le_refl _) ?_; intro v1 w1 ho1 hb1 hg1_ hnew_; clear hg1_ hnew_; rw [Int.toNat_natCast] at ho1; obtain ⟨A1, co1, e1⟩ := Kd.R_slice ho1; rw [List.length_replicate] at e1; subst e1; have HO1 : Aside0 ((Kd.raw 13).R 48 w1 w.heap.size (fun _ => True) (.slice A1 c co1) (List.replicate 0 x ++ List.replicate (c - 0) z)) := ⟨by rw [List.replicate_zero, List.nil_append, Nat.sub_zero]; exact ho1⟩; have HB1 := Aside0.mk hb1; clear ho1 hb1) | ((with_reducible refine gate_builtin (b := .copy) (xs := #[.tmp 31, .tmp 32]) rfl ?_); refine impl_TableNew.copyms (w0 := w) w.heap.size rfl (.tmp 31) (.tmp 32) 24 24 48 13 q85t rfl Try.underlying24 (by rw [hi]; simp [hsz]) (.slice A1 c co1) (List.replicate 0 x ++ List.replicate (c - 0) z) (List.replicate m0 x) (HYO.out m0) 0 ?hfit A1 c co1 1 ?hmd A0 c0 (fun _ => True) rfl rfl ?hA HO1.out ?hC HB1.out HB1.out.size ?_; (case hfit => have := HM.out; simp; omega); (case hmd => rw [List.length_replicate]; exact HM0.out); (case hA => rw [Nat.zero_mul]; exact impl_TableNew.head HO1.out (by have := HM.out; simp; omega)); (case hC => exact Kd.C_below HY.out HB1.out); intro w2 ho2 hb2 hg2; rw [impl_TableNew.rowrep x z c 0 m0 (by have := HM.out; omega), Nat.zero_add] at ho2; have HO2 := Aside0.mk ho2; have HB2 := Aside0.mk hb2; clear ho2 hb2 hg2; rw [List.length_replicate]))
 go_loopg [8] 20 (fun kq v8 w' => ∃ n : Nat, v8 = .int .i64 (n : Int) ∧ Aside0 (n ≤ c ∧ c - n < kq ∧ (n = 0 → c = 0)) ∧ Aside0 ((Kd.raw 13).R 48 w' w.heap.size (fun _ => True) (.slice A1 c co1) (List.replicate n x ++ List.replicate (c - n) z)) ∧ Aside0 (Below w.heap.size w w'))
 case atStart => exact ⟨m0, rfl, ⟨(by have := HM.out; have := HH.out; omega)⟩, HO2, HB2⟩
 case round =>
  obtain ⟨n, rfl, HN, HO, HB⟩ := hrel
  cases gk with
  | zero => exact absurd HN.out.2.1 q86t
  | succ k1 =>
   by_cases hn : n < c
   rotate_left
   ·have c6 : decide ((n : Int) < (c : Int)) = false := decide_eq_false q86t
    have hnc : n = c := by have := HN.out; omega
    subst hnc
    go_wp2
    go_ret
    exact ⟨_, rfl, (by have h := HO.out; rw [Nat.sub_self, List.replicate_zero, List.append_nil] at h; exact h), HB.out⟩
   have c6 : decide ((n : Int) < (c : Int)) = true := decide_eq_true q86t
   have hn0 : (0 : Int) ≤ (n : Int) := by omega
   have hn1 : (n : Int) ≤ (c : Int) := by omega
   have hco := (Kd.R_reads' HO.out).2.1
   have hn2 : (n : Int) ≤ (co1 : Int) := by omega
   obtain ⟨m, hm⟩ : ∃ m, m = Nat.min n (c - n) := ⟨_, rfl⟩
   have hmm : m ≤ n ∧ n + m ≤ c ∧ 1 ≤ m := by have := HN.out; rw [hm, show Nat.min n (c - n) = min n (c - n) from rfl]; omega
   have hxs : (List.replicate n x ++ List.replicate (c - n) z).length = c := by rw [List.length_append, List.length_replicate, List.length_replicate]; omega
   obtain ⟨Ac, hAc⟩ : ∃ Ac : Option Addr, (if co1 = n then A1 else A1.map (·.add (n * 13))) = Ac := ⟨_, rfl⟩
   have HC : Aside0 ((Kd.raw 13).C wr A1 (List.replicate m x).length (List.replicate m x)) := ⟨by
    have y := Kd.C_take (m := m) (by have y := (Kd.R_reads' HO.out).2.2; exact y) (by rw [hxs]; omega)
    rw [List.take_append_of_le_length (by rw [List.length_replicate]; exact hmm.1), List.take_replicate, Nat.min_eq_left hmm.1] at y
    exact y⟩
   have HF : Aside0 (n + (List.replicate m x).length ≤ (List.replicate n x ++ List.replicate (c - n) z).length) := ⟨by rw [hxs, List.length_replicate]; exact hmm.2.1⟩
   have HD : Aside0 ((List.replicate m x).length = Nat.min n (c - n)) := ⟨by rw [List.length_replicate]; exact hm⟩
   have HA : Aside0 (0 < (List.replicate m x).length → ∀ g, (Value.slice A1 c co1).ownBlock = some g → Ac = some ⟨g, n * 13, none⟩) := ⟨by rw [← hAc]; exact impl_TableNew.addr HO.out HF.out 13⟩
   have HMM := Aside0.mk hmm
   have hww : wrap64 ((n : Int) + ((List.replicate m x).length : Int)) = ((n + m : Nat) : Int) := by rw [List.length_replicate]; unfold wrap64; omega
   clear hmm hxs hco hm
   go_wp2_with fail
   go_region_law (refine impl_TableNew.stepms (w0 := w) w.heap.size rfl (.tmp 41) (.tmp 44) 24 24 48 13 q85t rfl Try.underlying24 (by rw [hi]; simp [hsz]) (.slice A1 c co1) (List.replicate n x ++ List.replicate (c - n) z) (List.replicate m x) (HYO.out m) n HF.out Ac (c - n) (co1 - n) n HD.out A1 co1 (fun _ => True) (by simp [Act.eval, Act.put]) (by simp [Act.eval, Act.put]) HA.out (Kd.R_drew HO.out) (Kd.C_drew HC.out) (below_drew1 HB.out) (below_drew1 HB.out).size ?_; intro w2 ho2 hb2 hg2; rw [impl_TableNew.rowrep x z c n m HMM.out.2.1] at ho2; have HO3 := Aside0.mk ho2; have HB3 := Aside0.mk hb2; clear ho2 hb2 hg2)
   go_wp2
   go_roundg k1
   case measure => have := HN.out; have := HMM.out; omega
   case rel => exact ⟨n + m, (by simp; rw [IntKind.wrap_i64]; have := HMM.out; have := HH.out; omega), ⟨(by have := HN.out; have := HMM.out; omega)⟩, HO3, HB3⟩
theorem impl_TableNew.told {w : World} {base n : Nat} {ok : Nat → Prop} {v : Value} (h : (Kd.raw 13).R 48 w base ok v (List.replicate n (impl_TableNew.nd 1))) : Kd.S k48 48 w base ok v (List.replicate n (⟨0, 1, 0, 0, 0, 0, 0, 0, [], 0, 0, [], []⟩ : S48)) := by
 obtain ⟨ho, hx⟩ := impl_TableNew.blk_own h
 have hl : (List.replicate n (⟨0, 1, 0, 0, 0, 0, 0, 0, [], 0, 0, [], []⟩ : S48)).zipIdx.length = n := by rw [List.length_zipIdx, List.length_replicate]
 rw [List.length_replicate] at ho
 refine ⟨fun _ => 0, h.1, _, by rw [hl]; exact ho, ?_, fun j p hj => ?_⟩
 ·rw [hl]
  have := impl_TableNew.flat_len 13 _ (fun x hm => (hx x hm).1)
  rw [List.length_replicate] at this
  exact this
 ·obtain ⟨hjl, hjp⟩ := List.getElem?_eq_some_iff.1 hj
  have hjn : j < n := by rw [hl] at hjl; exact hjl
  have hp : p.1 = (⟨0, 1, 0, 0, 0, 0, 0, 0, [], 0, 0, [], []⟩ : S48) := by
   rw [← hjp, List.getElem_zipIdx, List.getElem_replicate]
  have hr := impl_TableNew.flat_reps hx
  have hc := (hr.2 j (impl_TableNew.nd 1) (by rw [List.getElem?_replicate, if_pos hjn])).1
  show k48.M w base _ p.1 (((List.replicate n (impl_TableNew.nd 1)).flatten.drop (j * 13)).take 13)
  rw [hc, hp]
  exact k48_mkM w base _ (⟨0, 1, 0, 0, 0, 0, 0, 0, [], 0, 0, [], []⟩ : S48) (Kd.R_nil _ _ _ _ _) (Kd.R_nil _ _ _ _ _) (Kd.R_nil _ _ _ _ _)
set_option maxHeartbeats 8000000 in
set_option maxRecDepth 100000 in
theorem impl_TableNew.node (a0 : Int) (w : World) : Calls Try.prog 39 #[.int .i64 a0] w fun e w' => e = .returned (.agg #[.int .i64 0, .int .i64 a0, .int .i64 0, .int .i64 0, .int .i64 0, .int .i64 0, .int .i64 0, .int .i64 0, .slice none 0 0, .int .i64 0, .int .i64 0, .slice none 0 0, .slice none 0 0]) ∧ Below w.heap.size w w' := by
 have hu37 := Try.underlying48
 have HB := Aside0.mk (Below.refl w.heap.size w)
 go_enter Try.func39, Try.ntmps39
 go_wp2_with (first | ((with_reducible refine gate_dst (N := 2) rfl ?_); refine box_ev 2 #[.int .i64 0, .int .i64 0, .int .i64 0, .int .i64 0, .int .i64 0, .int .i64 0, .int .i64 0, .int .i64 0, .slice none 0 0, .int .i64 0, .int .i64 0, .slice none 0 0, .slice none 0 0] 48 ?_; intro gb158 hg w2 hbox hb; have BK158 := Aside0.mk (hbox); have GW158 := Aside0.mk ((q48t : w.heap.size ≤ gb158)); have GE158 := Aside0.mk ((q48t : w.heap.size ≤ gb158)); replace HB := Aside0.mk (below_step q53t hb); clear hb hbox hg; obtain ⟨hcz3_0, hcz3_1, hcz3_2, hcz3_3, hcz3_4, hcz3_5, hcz3_6, hcz3_7, hcz3_8, hcz3_9, hcz3_10, hcz3_11, hcz3_12⟩ := qc13 BK158.out; obtain ⟨hfz3_0, hfz3_1, hfz3_2, hfz3_3, hfz3_4, hfz3_5, hfz3_6, hfz3_7, hfz3_8, hfz3_9, hfz3_10, hfz3_11, hfz3_12⟩ := qf13 BK158.out))
 refine bodyPost_ret (results_cell_row rfl _ _ gb158 48 #[.int .i64 0, .int .i64 a0, .int .i64 0, .int .i64 0, .int .i64 0, .int .i64 0, .int .i64 0, .int .i64 0, .slice none 0 0, .int .i64 0, .int .i64 0, .slice none 0 0, .slice none 0 0] (0, 0) _ rfl (qbp BK158) Try.underlying48 rfl (by kernel_rfl)) rfl ?_
 exact ⟨rfl, q33t⟩
def impl_TableNew.f (a0_0 : Int) (a0_1 : Int) (a0_2 : Int) (a0_3 : Int) (a0_4 : Int) (a0_5 : Int) : Option ((List (S48))) := (impl_ConfOk.f a0_0 a0_1 a0_2 a0_3 a0_4 a0_5).bind fun t160 => (if t160 = true then (if 0 ≤ a0_2 ∧ a0_2 ≤ 12 then some (List.replicate a0_2.toNat (⟨0, 1, 0, 0, 0, 0, 0, 0, [], 0, 0, [], []⟩ : S48)) else none) else (some ([] : List (S48))))
set_option maxHeartbeats 8000000 in
set_option maxRecDepth 100000 in
theorem impl_TableNew.calls (a0_0 : Int) (a0_1 : Int) (a0_2 : Int) (a0_3 : Int) (a0_4 : Int) (a0_5 : Int) (r : List (S48)) (w : World) (h : impl_TableNew.f a0_0 a0_1 a0_2 a0_3 a0_4 a0_5 = some r) :
  Calls Try.prog 16 #[.agg #[.int .i64 a0_0, .int .i64 a0_1, .int .i64 a0_2, .int .i64 a0_3, .int .i64 a0_4, .int .i64 a0_5]] w fun e w' => ∃ v0_ : Value, e = .returned (v0_) ∧ Kd.S k48 48 w' w.heap.size (fun _ => True) v0_ r ∧ Below w.heap.size w w' := by
 have huc := Try.underlying33
 have HB := Aside0.mk (Below.refl w.heap.size w)
 have H : ((impl_ConfOk.f a0_0 a0_1 a0_2 a0_3 a0_4 a0_5).bind fun t160 => (if t160 = true then (if 0 ≤ a0_2 ∧ a0_2 ≤ 12 then some (List.replicate a0_2.toNat (⟨0, 1, 0, 0, 0, 0, 0, 0, [], 0, 0, [], []⟩ : S48)) else none) else (some ([] : List (S48))))) = some r := h
 clear h
 replace H := Option.bind_eq_some_iff.mp H
 obtain ⟨t160, A20, H⟩ := H
 try dsimp only at H
 have A2 := Aside0.mk A20
 clear A20
 by_cases c3 : t160 = true
 rotate_left
 ·replace c3 := Bool.eq_false_iff.mpr c3
  subst c3
  rw [if_neg (show ¬ (false = true) by decide)] at H
  obtain rfl := Option.some.inj H
  go_enter Try.func16, Try.ntmps16
  go_wp2_with (first | ((with_reducible refine gate_dst (N := 1) rfl ?_); refine box_ev 1 #[.int .i64 a0_0, .int .i64 a0_1, .int .i64 a0_2, .int .i64 a0_3, .int .i64 a0_4, .int .i64 a0_5] 33 ?_; intro gb159 hg w18 hbox hb; have BK159 := Aside0.mk (hbox); have GW159 := Aside0.mk ((q48t : w.heap.size ≤ gb159)); have GE159 := Aside0.mk ((q48t : w.heap.size ≤ gb159)); replace HB := Aside0.mk (below_step q53t hb); clear hb hbox hg; obtain ⟨hcz19_0, hcz19_1, hcz19_2, hcz19_3, hcz19_4, hcz19_5⟩ := qc6 BK159.out; obtain ⟨hfz19_0, hfz19_1, hfz19_2, hfz19_3, hfz19_4, hfz19_5⟩ := qf6 BK159.out) | ((with_reducible refine gate_callee (f := 37) rfl ?_); refine goesL_ (some 4) rfl rfl Try.func37 (by kernel_rfl) rfl #[.agg #[.int .i64 a0_0, .int .i64 a0_1, .int .i64 a0_2, .int .i64 a0_3, .int .i64 a0_4, .int .i64 a0_5]] rfl q51t ?_; (with_reducible refine (impl_ConfOk.calls a0_0 a0_1 a0_2 a0_3 a0_4 a0_5 false _ A2.out).mono ?_); rintro e w20 ⟨rfl, hb⟩; refine ⟨_, rfl, ?_⟩; replace BK159 := blb BK159 hb; replace HB := Aside0.mk (below_step q33t hb); (try clear hb); (try clear hb2); (try clear hk); (try clear hi)))
  go_ret
  exact ⟨_, q73t, (by first | exact Kd.S_nil _ _ _ _ _ | exact Kd.N_nil _ _ _ _ _ | exact Kd.V_nil _ _ _ _ _ | exact Kd.Q_nil _ _ _ _ _ | exact Kd.R_nil _ _ _ _ _), q33t⟩
 subst c3
 rw [if_pos rfl] at H
 by_cases c4 : 0 ≤ a0_2 ∧ a0_2 ≤ 12
 rotate_left
 ·rw [if_neg c4] at H
  cases H
 rw [if_pos c4] at H
 obtain rfl := Option.some.inj H
 clear H
 have C4 := Aside0.mk c4
 clear c4
 go_enter Try.func16, Try.ntmps16
 try go_wp2_with (first | ((with_reducible refine gate_dst (N := 1) rfl ?_); refine box_ev 1 #[.int .i64 a0_0, .int .i64 a0_1, .int .i64 a0_2, .int .i64 a0_3, .int .i64 a0_4, .int .i64 a0_5] 33 ?_; intro gb159 hg w6 hbox hb; have BK159 := Aside0.mk (hbox); have GW159 := Aside0.mk ((q48t : w.heap.size ≤ gb159)); have GE159 := Aside0.mk ((q48t : w.heap.size ≤ gb159)); replace HB := Aside0.mk (below_step q53t hb); clear hb hbox hg; obtain ⟨hcz7_0, hcz7_1, hcz7_2, hcz7_3, hcz7_4, hcz7_5⟩ := qc6 BK159.out; obtain ⟨hfz7_0, hfz7_1, hfz7_2, hfz7_3, hfz7_4, hfz7_5⟩ := qf6 BK159.out) | ((with_reducible refine gate_callee (f := 37) rfl ?_); refine goesL_ (some 4) rfl rfl Try.func37 (by kernel_rfl) rfl #[.agg #[.int .i64 a0_0, .int .i64 a0_1, .int .i64 a0_2, .int .i64 a0_3, .int .i64 a0_4, .int .i64 a0_5]] rfl q51t ?_; (with_reducible refine (impl_ConfOk.calls a0_0 a0_1 a0_2 a0_3 a0_4 a0_5 true _ A2.out).mono ?_); rintro e w8 ⟨rfl, hb⟩; refine ⟨_, rfl, ?_⟩; replace BK159 := blb BK159 hb; replace HB := Aside0.mk (below_step q33t hb); (try clear hb); (try clear hb2); (try clear hk); (try clear hi)))
 (try (rw [drewN_self w8]; generalize hq_ : World.drewN w8 _ = w8; have hh_ := congrArg World.heap hq_; dsimp only [World.drewN] at hh_; have zb_ : Below w.heap.size w w8 := (by rw [← hq_]; exact pw_below_drewN HB.out _); have z_ := BK159.out; rw [hh_] at z_; clear BK159; have BK159 := Aside0.mk z_; clear z_; clear HB; have HB := Aside0.mk zb_; clear zb_ hh_ hq_))
 replace BK159 := Aside0.mk (blk_drew BK159.out)
 replace HB := Aside0.mk (below_drew1 HB.out)
 refine start_ (n := 6) (S := fun w' => w'.cell? ⟨gb159, 0, none⟩ = some (.int .i64 a0_0) ∧ w'.cell? ⟨gb159, 1, none⟩ = some (.int .i64 a0_1) ∧ w'.cell? ⟨gb159, 2, none⟩ = some (.int .i64 a0_2) ∧ w'.cell? ⟨gb159, 3, none⟩ = some (.int .i64 a0_3) ∧ w'.cell? ⟨gb159, 4, none⟩ = some (.int .i64 a0_4) ∧ w'.cell? ⟨gb159, 5, none⟩ = some (.int .i64 a0_5)) (ds := []) (bm 6 0) (by kernel_rfl) rfl (by kernel_rfl) ⟨(blk_cell BK159.out 0).trans rfl, (blk_cell BK159.out 1).trans rfl, (blk_cell BK159.out 2).trans rfl, (blk_cell BK159.out 3).trans rfl, (blk_cell BK159.out 4).trans rfl, (blk_cell BK159.out 5).trans rfl⟩ (fun hHeld => ?_)
 generalize w8.drew = w9 at BK159 HB hHeld ⊢
 refine pu_ 2 (some 8) (bm 6 4) (by kernel_rfl) ?_
 refine tk_ 3 (some 9) (bm 6 12) (by kernel_rfl) hHeld ?_
 refine one_ (i := 0) (N := some 6) (bm 6 13) rfl rfl (by kernel_rfl) q85t (fun K hK => ?_)
 refine goes_ Try.func39 (by kernel_rfl) rfl #[.int .i64 1] (by rfl) rfl rfl q51t ?_
 refine (impl_TableNew.node 1 _).mono ?_
 rintro e w10 ⟨rfl, hb⟩
 refine ⟨_, rfl, ?_⟩
 replace BK159 := blb BK159 hb
 replace HB := Aside0.mk (below_step q33t hb)
 (try clear hb)
 refine hK.out _ _ q25t (fun hHeld => ?_)
 clear hK K
 refine norm_ (a' := ?_) ?_ ?_
 rotate_left
 ·show Act.put _ (some 6) _ = _
  simp only [Act.put, List.setIfInBounds_toArray, List.set_cons_zero, List.set_cons_succ, i64_w, i32_w]
  rfl
 refine one_ (i := 1) (N := some 7) (bm 6 15) rfl rfl (by kernel_rfl) q85t (fun K hK => ?_)
 refine Kd.R_lit_step (Kd.raw 13) _ 48 ?hg (N := 7) ?hd (xs := [impl_TableNew.nd 1]) (inner := [.int .i64 0, .int .i64 1, .int .i64 0, .int .i64 0, .int .i64 0, .int .i64 0, .int .i64 0, .int .i64 0, .slice none 0 0, .int .i64 0, .int .i64 0, .slice none 0 0, .slice none 0 0]) (ok := fun _ => True) (okp := fun _ => True) ?hr ?hp (fun _ hk => hk) trivial (Below.refl _ _) (Nat.le_refl _) q87t ?_; (case hd => rfl); (case hg => rfl); (case hr => first | (go_simp; done) | (go_simp; rfl)); (case hp => exact (by have q := impl_TableNew.flat_reps (sz := 13) (xs := [impl_TableNew.nd 1]) (fun x hx => by rw [List.mem_singleton.mp hx]; exact impl_TableNew.nd_ok 1); rw [List.flatten_cons, List.flatten_nil, List.append_nil] at q; exact q))
 intro v181 w14 ho15 hb hg_ hnew_
 clear hg_ hnew_
 have HO182 := Aside0.mk (Kd.R_lower ho15 (below_size q33t))
 replace BK159 := blb BK159 hb
 replace HB := Aside0.mk (below_step q33t hb)
 clear hb ho15
 obtain ⟨Ao16, co16, eo16⟩ := Kd.R_slice HO182.out
 replace eo16 : v181 = .slice Ao16 1 co16 := eo16
 subst eo16
 refine hK.out _ _ q25t (fun hHeld => ?_)
 clear hK K
 refine norm_ (a' := ?_) ?_ ?_
 rotate_left
 ·show Act.put _ (some 7) _ = _
  simp only [Act.put, List.setIfInBounds_toArray, List.set_cons_zero, List.set_cons_succ, i64_w, i32_w]
  rfl
 refine one_ (i := 4) (N := some 10) (bm 6 31) rfl rfl (by kernel_rfl) q85t (fun K hK => ?_)
 refine goes_ Try.func38 (by kernel_rfl) rfl #[.slice Ao16 1 co16, .int .i64 a0_2] (by rfl) rfl rfl q51t ?_
 refine (impl_TableNew.rep Ao16 co16 1 a0_2 _ ?side1 ?side2 C4.out).mono ?_
 (case side1 => repeat (first | exact (Kd.R_reads' HO182.out).2.2 | (with_reducible refine Kd.C_alloc ?_ _) | (with_reducible refine Kd.C_drewN ?_ _) | (with_reducible refine Kd.C_drew ?_)))
 (case side2 => exact (Kd.R_reads' HO182.out).2.1)
 rintro e w17 ⟨v184, rfl, ho0, hb⟩
 refine ⟨_, rfl, ?_⟩
 have n1_ := Aside0.mk (Kd.R_lower ho0 (below_size q33t))
 have n2_ := blb BK159 hb
 have n3_ := Aside0.mk (below_step q33t hb)
 clear HO182
 clear BK159
 clear HB
 have HO185 := n1_
 have BK159 := n2_
 have HB := n3_
 clear n1_ n2_ n3_
 (try clear hb)
 (try clear ho0)
 refine hK.out _ _ q25t (fun hHeld => ?_)
 clear hK K
 refine norm_ (a' := ?_) ?_ ?_
 rotate_left
 ·show Act.put _ (some 10) _ = _
  simp only [Act.put, List.setIfInBounds_toArray, List.set_cons_zero, List.set_cons_succ, i64_w, i32_w]
  rfl
 refine pu_ 5 (some 2) (bm 6 63) (by kernel_rfl) ?_
 refine done_ (by kernel_rfl) ?_
 try go_wp2
 go_ret
 exact ⟨_, q73t, (by (with_reducible repeat (first | apply Kd.S_alloc | apply Kd.S_drewN | apply Kd.S_drew)); exact impl_TableNew.told HO185.out), q33t⟩

/-! ### spec_ConfOk: function 40 -/
def spec_ConfOk.f (a0_0 : Int) (a0_1 : Int) (a0_2 : Int) (a0_3 : Int) (a0_4 : Int) (a0_5 : Int) : Option (Bool) := (spec_l1In.f a0_0 2 12).bind fun t602 => (if t602 = true then ((spec_l1In.f a0_1 8 16).bind fun t603 => (if t603 = true then ((spec_l1In.f a0_2 2 8).bind fun t604 => (if t604 = true then ((spec_l1In.f a0_3 1 8).bind fun t605 => (if t605 = true then ((spec_l1In.f a0_4 1 16).bind fun t606 => (if t606 = true then ((spec_l1In.f a0_5 1 4).bind fun t607 => (some t607)) else (some false))) else (some false))) else (some false))) else (some false))) else (some false))
set_option maxHeartbeats 8000000 in
set_option maxRecDepth 100000 in
theorem spec_ConfOk.calls (a0_0 : Int) (a0_1 : Int) (a0_2 : Int) (a0_3 : Int) (a0_4 : Int) (a0_5 : Int) (r : Bool) (w : World) (h : spec_ConfOk.f a0_0 a0_1 a0_2 a0_3 a0_4 a0_5 = some r) :
  Calls Try.prog 40 #[.agg #[.int .i64 a0_0, .int .i64 a0_1, .int .i64 a0_2, .int .i64 a0_3, .int .i64 a0_4, .int .i64 a0_5]] w fun e w' => e = .returned (.bool r) ∧ Below w.heap.size w w' := by
 have hu33 := Try.underlying33
 have HB := Aside0.mk (Below.refl w.heap.size w)
 have H : ((spec_l1In.f a0_0 2 12).bind fun t602 => (if t602 = true then ((spec_l1In.f a0_1 8 16).bind fun t603 => (if t603 = true then ((spec_l1In.f a0_2 2 8).bind fun t604 => (if t604 = true then ((spec_l1In.f a0_3 1 8).bind fun t605 => (if t605 = true then ((spec_l1In.f a0_4 1 16).bind fun t606 => (if t606 = true then ((spec_l1In.f a0_5 1 4).bind fun t607 => (some t607)) else (some false))) else (some false))) else (some false))) else (some false))) else (some false))) = some r := h
 clear h
 replace H := Option.bind_eq_some_iff.mp H
 obtain ⟨t602, A20, H⟩ := H
 try dsimp only at H
 have A2 := Aside0.mk A20
 clear A20
 by_cases c3 : t602 = true
 rotate_left
 ·replace c3 := Bool.eq_false_iff.mpr c3
  subst c3
  rw [if_neg (show ¬ (false = true) by decide)] at H
  obtain rfl := Option.some.inj H
  go_enter Try.func40, Try.ntmps40
  go_wp2_with (first | ((with_reducible refine gate_dst (N := 1) rfl ?_); refine box_ev 1 #[.int .i64 a0_0, .int .i64 a0_1, .int .i64 a0_2, .int .i64 a0_3, .int .i64 a0_4, .int .i64 a0_5] 33 ?_; intro gb601 hg w23 hbox hb; have BK601 := Aside0.mk (hbox); have GW601 := Aside0.mk ((q48t : w.heap.size ≤ gb601)); have GE601 := Aside0.mk ((q48t : w.heap.size ≤ gb601)); replace HB := Aside0.mk (below_step q53t hb); clear hb hbox hg; obtain ⟨hcz24_0, hcz24_1, hcz24_2, hcz24_3, hcz24_4, hcz24_5⟩ := qc6 BK601.out; obtain ⟨hfz24_0, hfz24_1, hfz24_2, hfz24_3, hfz24_4, hfz24_5⟩ := qf6 BK601.out) | ((with_reducible refine gate_callee (f := 35) rfl ?_); refine goesL_ (some 5) rfl rfl Try.func35 (by kernel_rfl) rfl #[.int .i64 a0_0, .int .i64 2, .int .i64 12] rfl q51t ?_; (with_reducible refine (spec_l1In.calls a0_0 2 12 false _ A2.out).mono ?_); rintro e w' ⟨rfl, ⟨nd, rfl⟩⟩; refine ⟨_, rfl, ?_⟩))
  go_ret
  exact ⟨q73t, q33t⟩
 subst c3
 rw [if_pos rfl] at H
 replace H := Option.bind_eq_some_iff.mp H
 obtain ⟨t603, A40, H⟩ := H
 try dsimp only at H
 have A4 := Aside0.mk A40
 clear A40
 by_cases c5 : t603 = true
 rotate_left
 ·replace c5 := Bool.eq_false_iff.mpr c5
  subst c5
  rw [if_neg (show ¬ (false = true) by decide)] at H
  obtain rfl := Option.some.inj H
  go_enter Try.func40, Try.ntmps40
  go_wp2_with (first | ((with_reducible refine gate_dst (N := 1) rfl ?_); refine box_ev 1 #[.int .i64 a0_0, .int .i64 a0_1, .int .i64 a0_2, .int .i64 a0_3, .int .i64 a0_4, .int .i64 a0_5] 33 ?_; intro gb601 hg w21 hbox hb; have BK601 := Aside0.mk (hbox); have GW601 := Aside0.mk ((q48t : w.heap.size ≤ gb601)); have GE601 := Aside0.mk ((q48t : w.heap.size ≤ gb601)); replace HB := Aside0.mk (below_step q53t hb); clear hb hbox hg; obtain ⟨hcz22_0, hcz22_1, hcz22_2, hcz22_3, hcz22_4, hcz22_5⟩ := qc6 BK601.out; obtain ⟨hfz22_0, hfz22_1, hfz22_2, hfz22_3, hfz22_4, hfz22_5⟩ := qf6 BK601.out) | ((with_reducible refine gate_callee (f := 35) rfl ?_); refine goesL_ (some 5) rfl rfl Try.func35 (by kernel_rfl) rfl #[.int .i64 a0_0, .int .i64 2, .int .i64 12] rfl q51t ?_; (with_reducible refine (spec_l1In.calls a0_0 2 12 true _ A2.out).mono ?_); rintro e w' ⟨rfl, ⟨nd, rfl⟩⟩; refine ⟨_, rfl, ?_⟩) | (go_at_call 35; (with_reducible refine (spec_l1In.calls a0_1 8 16 false _ A4.out).mono ?_); rintro e w' ⟨rfl, ⟨nd, rfl⟩⟩))
  go_ret
  exact ⟨q73t, q33t⟩
 subst c5
 rw [if_pos rfl] at H
 replace H := Option.bind_eq_some_iff.mp H
 obtain ⟨t604, A60, H⟩ := H
 try dsimp only at H
 have A6 := Aside0.mk A60
 clear A60
 by_cases c7 : t604 = true
 rotate_left
 ·replace c7 := Bool.eq_false_iff.mpr c7
  subst c7
  rw [if_neg (show ¬ (false = true) by decide)] at H
  obtain rfl := Option.some.inj H
  go_enter Try.func40, Try.ntmps40
  go_wp2_with (first | ((with_reducible refine gate_dst (N := 1) rfl ?_); refine box_ev 1 #[.int .i64 a0_0, .int .i64 a0_1, .int .i64 a0_2, .int .i64 a0_3, .int .i64 a0_4, .int .i64 a0_5] 33 ?_; intro gb601 hg w19 hbox hb; have BK601 := Aside0.mk (hbox); have GW601 := Aside0.mk ((q48t : w.heap.size ≤ gb601)); have GE601 := Aside0.mk ((q48t : w.heap.size ≤ gb601)); replace HB := Aside0.mk (below_step q53t hb); clear hb hbox hg; obtain ⟨hcz20_0, hcz20_1, hcz20_2, hcz20_3, hcz20_4, hcz20_5⟩ := qc6 BK601.out; obtain ⟨hfz20_0, hfz20_1, hfz20_2, hfz20_3, hfz20_4, hfz20_5⟩ := qf6 BK601.out) | ((with_reducible refine gate_callee (f := 35) rfl ?_); refine goesL_ (some 5) rfl rfl Try.func35 (by kernel_rfl) rfl #[.int .i64 a0_0, .int .i64 2, .int .i64 12] rfl q51t ?_; (with_reducible refine (spec_l1In.calls a0_0 2 12 true _ A2.out).mono ?_); rintro e w' ⟨rfl, ⟨nd, rfl⟩⟩; refine ⟨_, rfl, ?_⟩) | (go_at_call 35; (with_reducible refine (spec_l1In.calls a0_1 8 16 true _ A4.out).mono ?_); rintro e w' ⟨rfl, ⟨nd, rfl⟩⟩) | (go_at_call 35; (with_reducible refine (spec_l1In.calls a0_2 2 8 false _ A6.out).mono ?_); rintro e w' ⟨rfl, ⟨nd, rfl⟩⟩))
  go_ret
  exact ⟨q73t, q33t⟩
 subst c7
 rw [if_pos rfl] at H
 replace H := Option.bind_eq_some_iff.mp H
 obtain ⟨t605, A80, H⟩ := H
 try dsimp only at H
 have A8 := Aside0.mk A80
 clear A80
 by_cases c9 : t605 = true
 ·subst c9
  rw [if_pos rfl] at H
  replace H := Option.bind_eq_some_iff.mp H
  obtain ⟨t606, A100, H⟩ := H
  try dsimp only at H
  have A10 := Aside0.mk A100
  clear A100
  by_cases c11 : t606 = true
  ·subst c11
   rw [if_pos rfl] at H
   replace H := Option.bind_eq_some_iff.mp H
   obtain ⟨t607, A120, H⟩ := H
   try dsimp only at H
   have A12 := Aside0.mk A120
   clear A120
   obtain rfl := Option.some.inj H
   go_enter Try.func40, Try.ntmps40
   go_wp2_with (first | ((with_reducible refine gate_dst (N := 1) rfl ?_); refine box_ev 1 #[.int .i64 a0_0, .int .i64 a0_1, .int .i64 a0_2, .int .i64 a0_3, .int .i64 a0_4, .int .i64 a0_5] 33 ?_; intro gb601 hg w13 hbox hb; have BK601 := Aside0.mk (hbox); have GW601 := Aside0.mk ((q48t : w.heap.size ≤ gb601)); have GE601 := Aside0.mk ((q48t : w.heap.size ≤ gb601)); replace HB := Aside0.mk (below_step q53t hb); clear hb hbox hg; obtain ⟨hcz14_0, hcz14_1, hcz14_2, hcz14_3, hcz14_4, hcz14_5⟩ := qc6 BK601.out; obtain ⟨hfz14_0, hfz14_1, hfz14_2, hfz14_3, hfz14_4, hfz14_5⟩ := qf6 BK601.out) | ((with_reducible refine gate_callee (f := 35) rfl ?_); refine goesL_ (some 5) rfl rfl Try.func35 (by kernel_rfl) rfl #[.int .i64 a0_0, .int .i64 2, .int .i64 12] rfl q51t ?_; (with_reducible refine (spec_l1In.calls a0_0 2 12 true _ A2.out).mono ?_); rintro e w' ⟨rfl, ⟨nd, rfl⟩⟩; refine ⟨_, rfl, ?_⟩) | (go_at_call 35; (with_reducible refine (spec_l1In.calls a0_1 8 16 true _ A4.out).mono ?_); rintro e w' ⟨rfl, ⟨nd, rfl⟩⟩) | (go_at_call 35; (with_reducible refine (spec_l1In.calls a0_2 2 8 true _ A6.out).mono ?_); rintro e w' ⟨rfl, ⟨nd, rfl⟩⟩) | (go_at_call 35; (with_reducible refine (spec_l1In.calls a0_3 1 8 true _ A8.out).mono ?_); rintro e w' ⟨rfl, ⟨nd, rfl⟩⟩) | (go_at_call 35; (with_reducible refine (spec_l1In.calls a0_4 1 16 true _ A10.out).mono ?_); rintro e w' ⟨rfl, ⟨nd, rfl⟩⟩) | (go_at_call 35; (with_reducible refine (spec_l1In.calls a0_5 1 4 t607 _ A12.out).mono ?_); rintro e w' ⟨rfl, ⟨nd, rfl⟩⟩))
   go_ret
   exact ⟨q73t, q33t⟩
  replace c11 := Bool.eq_false_iff.mpr c11
  subst c11
  rw [if_neg (show ¬ (false = true) by decide)] at H
  obtain rfl := Option.some.inj H
  go_enter Try.func40, Try.ntmps40
  go_wp2_with (first | ((with_reducible refine gate_dst (N := 1) rfl ?_); refine box_ev 1 #[.int .i64 a0_0, .int .i64 a0_1, .int .i64 a0_2, .int .i64 a0_3, .int .i64 a0_4, .int .i64 a0_5] 33 ?_; intro gb601 hg w15 hbox hb; have BK601 := Aside0.mk (hbox); have GW601 := Aside0.mk ((q48t : w.heap.size ≤ gb601)); have GE601 := Aside0.mk ((q48t : w.heap.size ≤ gb601)); replace HB := Aside0.mk (below_step q53t hb); clear hb hbox hg; obtain ⟨hcz16_0, hcz16_1, hcz16_2, hcz16_3, hcz16_4, hcz16_5⟩ := qc6 BK601.out; obtain ⟨hfz16_0, hfz16_1, hfz16_2, hfz16_3, hfz16_4, hfz16_5⟩ := qf6 BK601.out) | ((with_reducible refine gate_callee (f := 35) rfl ?_); refine goesL_ (some 5) rfl rfl Try.func35 (by kernel_rfl) rfl #[.int .i64 a0_0, .int .i64 2, .int .i64 12] rfl q51t ?_; (with_reducible refine (spec_l1In.calls a0_0 2 12 true _ A2.out).mono ?_); rintro e w' ⟨rfl, ⟨nd, rfl⟩⟩; refine ⟨_, rfl, ?_⟩) | (go_at_call 35; (with_reducible refine (spec_l1In.calls a0_1 8 16 true _ A4.out).mono ?_); rintro e w' ⟨rfl, ⟨nd, rfl⟩⟩) | (go_at_call 35; (with_reducible refine (spec_l1In.calls a0_2 2 8 true _ A6.out).mono ?_); rintro e w' ⟨rfl, ⟨nd, rfl⟩⟩) | (go_at_call 35; (with_reducible refine (spec_l1In.calls a0_3 1 8 true _ A8.out).mono ?_); rintro e w' ⟨rfl, ⟨nd, rfl⟩⟩) | (go_at_call 35; (with_reducible refine (spec_l1In.calls a0_4 1 16 false _ A10.out).mono ?_); rintro e w' ⟨rfl, ⟨nd, rfl⟩⟩))
  go_ret
  exact ⟨q73t, q33t⟩
 replace c9 := Bool.eq_false_iff.mpr c9
 subst c9
 rw [if_neg (show ¬ (false = true) by decide)] at H
 obtain rfl := Option.some.inj H
 go_enter Try.func40, Try.ntmps40
 go_wp2_with (first | ((with_reducible refine gate_dst (N := 1) rfl ?_); refine box_ev 1 #[.int .i64 a0_0, .int .i64 a0_1, .int .i64 a0_2, .int .i64 a0_3, .int .i64 a0_4, .int .i64 a0_5] 33 ?_; intro gb601 hg w17 hbox hb; have BK601 := Aside0.mk (hbox); have GW601 := Aside0.mk ((q48t : w.heap.size ≤ gb601)); have GE601 := Aside0.mk ((q48t : w.heap.size ≤ gb601)); replace HB := Aside0.mk (below_step q53t hb); clear hb hbox hg; obtain ⟨hcz18_0, hcz18_1, hcz18_2, hcz18_3, hcz18_4, hcz18_5⟩ := qc6 BK601.out; obtain ⟨hfz18_0, hfz18_1, hfz18_2, hfz18_3, hfz18_4, hfz18_5⟩ := qf6 BK601.out) | ((with_reducible refine gate_callee (f := 35) rfl ?_); refine goesL_ (some 5) rfl rfl Try.func35 (by kernel_rfl) rfl #[.int .i64 a0_0, .int .i64 2, .int .i64 12] rfl q51t ?_; (with_reducible refine (spec_l1In.calls a0_0 2 12 true _ A2.out).mono ?_); rintro e w' ⟨rfl, ⟨nd, rfl⟩⟩; refine ⟨_, rfl, ?_⟩) | (go_at_call 35; (with_reducible refine (spec_l1In.calls a0_1 8 16 true _ A4.out).mono ?_); rintro e w' ⟨rfl, ⟨nd, rfl⟩⟩) | (go_at_call 35; (with_reducible refine (spec_l1In.calls a0_2 2 8 true _ A6.out).mono ?_); rintro e w' ⟨rfl, ⟨nd, rfl⟩⟩) | (go_at_call 35; (with_reducible refine (spec_l1In.calls a0_3 1 8 false _ A8.out).mono ?_); rintro e w' ⟨rfl, ⟨nd, rfl⟩⟩))
 go_ret
 exact ⟨q73t, q33t⟩

/-! ### spec_TableNew: function 17 -/
def spec_TableNew.l0 : Nat → List (S48) → Int → Int → Int → Int → Int → Int → Int → Option ((List (S48)))
 | 0, _, _, _, _, _, _, _, _ => none
 | k + 1, x3, x4, x609000, x609001, x609002, x609003, x609004, x609005 => if x4 < x609002 then ((spec_ConfOk.f x609000 x609001 x609002 x609003 x609004 x609005).bind fun t612 => (if t612 = true then ((spec_NodeNew.f 1).bind fun bt613 => (if x3.length < 925904528653 then (spec_TableNew.l0 k (x3 ++ [(⟨bt613.1, bt613.2.1, bt613.2.2.1, bt613.2.2.2.1, bt613.2.2.2.2.1, bt613.2.2.2.2.2.1, bt613.2.2.2.2.2.2.1, bt613.2.2.2.2.2.2.2.1, bt613.2.2.2.2.2.2.2.2.1, bt613.2.2.2.2.2.2.2.2.2.1, bt613.2.2.2.2.2.2.2.2.2.2.1, bt613.2.2.2.2.2.2.2.2.2.2.2.1, bt613.2.2.2.2.2.2.2.2.2.2.2.2⟩ : S48)]) (wrap64 (x4 + 1)) x609000 x609001 x609002 x609003 x609004 x609005) else (none))) else (some x3))) else (some x3)
def spec_TableNew.f (k : Nat) (a0_0 : Int) (a0_1 : Int) (a0_2 : Int) (a0_3 : Int) (a0_4 : Int) (a0_5 : Int) : Option ((List (S48))) := spec_TableNew.l0 k (([] : List (S48))) 0 a0_0 a0_1 a0_2 a0_3 a0_4 a0_5
theorem spec_TableNew.mono_l : ∀ k, (∀ y0 y1 y2 y3 y4 y5 y6 y7, LeO (spec_TableNew.l0 k y0 y1 y2 y3 y4 y5 y6 y7) (spec_TableNew.l0 (k + 1) y0 y1 y2 y3 y4 y5 y6 y7))
 | 0 => fun _ _ _ _ _ _ _ _ r h => by simp [spec_TableNew.l0] at h
 | k + 1 => by
  have ih0 := spec_TableNew.mono_l k
  ·intro y0 y1 y2 y3 y4 y5 y6 y7
   unfold spec_TableNew.l0
   repeat' first
   | (with_reducible exact ih0 _ _ _ _ _ _ _ _)
   | (with_reducible exact LeO.refl _)
   | (with_reducible exact LeO.none _)
   | (with_reducible refine LeO.ite ?_ ?_)
   | (with_reducible refine LeO.bind ?_ (fun _ => ?_))
   | exact ih0 _ _ _ _ _ _ _ _
   | exact LeO.none _
   | refine LeO.ite ?_ ?_
   | refine LeO.bind ?_ (fun _ => ?_)
theorem spec_TableNew.mono : ∀ a0 a1 a2 a3 a4 a5 k, LeO (spec_TableNew.f k a0 a1 a2 a3 a4 a5) (spec_TableNew.f (k + 1) a0 a1 a2 a3 a4 a5) := by
 intro a0 a1 a2 a3 a4 a5 k
 have ih0 := spec_TableNew.mono_l k
 unfold spec_TableNew.f
 repeat' first
   | (with_reducible exact ih0 _ _ _ _ _ _ _ _)
   | (with_reducible exact LeO.refl _)
   | (with_reducible exact LeO.none _)
   | (with_reducible refine LeO.ite ?_ ?_)
   | (with_reducible refine LeO.bind ?_ (fun _ => ?_))
   | exact ih0 _ _ _ _ _ _ _ _
   | exact LeO.none _
   | refine LeO.ite ?_ ?_
   | refine LeO.bind ?_ (fun _ => ?_)
set_option maxHeartbeats 8000000 in
set_option maxRecDepth 100000 in
theorem spec_TableNew.calls (k : Nat) (a0_0 : Int) (a0_1 : Int) (a0_2 : Int) (a0_3 : Int) (a0_4 : Int) (a0_5 : Int) (r : List (S48)) (w : World) (h : spec_TableNew.f k a0_0 a0_1 a0_2 a0_3 a0_4 a0_5 = some r) :
  Calls Try.prog 17 #[.agg #[.int .i64 a0_0, .int .i64 a0_1, .int .i64 a0_2, .int .i64 a0_3, .int .i64 a0_4, .int .i64 a0_5]] w fun e w' => ∃ v0_ : Value, e = .returned (v0_) ∧ Kd.S k48 48 w' w.heap.size (fun _ => True) v0_ r ∧ Below w.heap.size w w' := by
 have hu33 := Try.underlying33
 have HB := Aside0.mk (Below.refl w.heap.size w)
 have H : (spec_TableNew.l0 k (([] : List (S48))) 0 a0_0 a0_1 a0_2 a0_3 a0_4 a0_5) = some r := h
 clear h
 obtain ⟨y609, hy609⟩ : ∃ y_ : List (S48), y_ = (([] : List (S48))) := ⟨_, rfl⟩
 replace H : (spec_TableNew.l0 k y609 0 a0_0 a0_1 a0_2 a0_3 a0_4 a0_5) = some r := by first | (rw [hy609]; with_reducible exact H) | (have H2_ := (Option.bind_some _ _).symm.trans H; rw [hy609]; with_reducible exact H2_) | (have H2_ := (Option.bind_some _ _).symm.trans H; with_reducible exact H2_) | with_reducible exact H | (rw [hy609]; exact H) | exact H
 have Ny609 := Aside0.mk hy609
 clear hy609
 have H' := Aside0.mk H
 clear H
 go_enter Try.func17, Try.ntmps17
 go_wp2_with (first | ((with_reducible refine gate_dst (N := 1) rfl ?_); refine box_ev 1 #[.int .i64 a0_0, .int .i64 a0_1, .int .i64 a0_2, .int .i64 a0_3, .int .i64 a0_4, .int .i64 a0_5] 33 ?_; intro gb608 hg w2 hbox hb; have BK608 := Aside0.mk (hbox); have GW608 := Aside0.mk ((q48t : w.heap.size ≤ gb608)); have GE608 := Aside0.mk ((q48t : w.heap.size ≤ gb608)); replace HB := Aside0.mk (below_step q53t hb); clear hb hbox hg) | ((with_reducible refine gate_dst (N := 5) rfl ?_); refine Kd.S_lit k48 _ 48 ?hg (N := 5) ?hd (xs := ([] : List (S48))) (inner := []) (ok := fun _ => True) (okp := fun _ => True) ?hr ?hp (fun _ hk => hk) trivial (Below.refl _ _) (Nat.le_refl _) q87t ?_; (case hd => rfl); (case hg => rfl); (case hr => first | (go_simp; done) | (go_simp; rfl)); (case hp => exact (Reps.none _ _)); intro v610 w3 ho4 hb hg_ hnew_; clear hg_ hnew_; (first | rw [← Ny609.out] at ho4 | (simp only [Int.reduceToNat] at ho4; rw [← Ny609.out] at ho4)); have HO611 := Aside0.mk (Kd.S_lower ho4 (below_size q33t)); replace BK608 := blb BK608 hb; replace HB := Aside0.mk (below_step q33t hb); clear hb ho4))
 go_loopg [3, 4] k (fun kq v3 v4 w' => ∃ (x3_1 : List (S48)) (x4_1 : Int), v4 = .int .i64 x4_1 ∧ Aside0 (spec_TableNew.l0 kq x3_1 x4_1 a0_0 a0_1 a0_2 a0_3 a0_4 a0_5 = some r) ∧ Aside0 (kq ≤ k) ∧ Aside0 (Kd.S k48 48 w' w.heap.size (fun _ => True) v3 x3_1) ∧ Aside0 (w'.heap[gb608]? = some (.cells #[.int .i64 a0_0, .int .i64 a0_1, .int .i64 a0_2, .int .i64 a0_3, .int .i64 a0_4, .int .i64 a0_5] 33 (0, 0))) ∧ Aside0 (Below w.heap.size w w'))
 case atStart => exact ⟨(y609), (0), q81t, H', ⟨Nat.le_refl _⟩, ⟨(by (with_reducible repeat (first | apply Kd.S_alloc | apply Kd.S_drewN | apply Kd.S_drew)); exact HO611.out)⟩, ⟨qbk BK608⟩, ⟨q33t⟩⟩
 case round =>
  clear H'
  try clear c1
  try clear p2
  obtain ⟨x3_1, x4_1, rfl, HA, HK1, HO_3, BK608, HB⟩ := hrel
  cases gk with
  | zero => exact absurd HA.out (by simp [spec_TableNew.l0])
  | succ k1 =>
   have H := HA.out
   clear HA
   simp only [spec_TableNew.l0] at H
   by_cases c5 : x4_1 < a0_2
   rotate_left
   ·rw [if_neg c5] at H
    have c5b0 : decide (x4_1 < a0_2) = false := decide_eq_false c5
    clear c5
    obtain rfl := Option.some.inj H
    obtain ⟨hcz19_0, hcz19_1, hcz19_2, hcz19_3, hcz19_4, hcz19_5⟩ := qc6 BK608.out
    obtain ⟨hfz19_0, hfz19_1, hfz19_2, hfz19_3, hfz19_4, hfz19_5⟩ := qf6 BK608.out
    go_wp2
    go_ret
    exact ⟨_, q73t, q70t, q33t⟩
   rw [if_pos c5] at H
   have c5b0 : decide (x4_1 < a0_2) = true := decide_eq_true c5
   clear c5
   replace H := Option.bind_eq_some_iff.mp H
   obtain ⟨t612, A60, H⟩ := H
   try dsimp only at H
   have A6 := Aside0.mk A60
   clear A60
   by_cases c7 : t612 = true
   rotate_left
   ·replace c7 := Bool.eq_false_iff.mpr c7
    subst c7
    rw [if_neg (show ¬ (false = true) by decide)] at H
    obtain rfl := Option.some.inj H
    obtain ⟨hcz17_0, hcz17_1, hcz17_2, hcz17_3, hcz17_4, hcz17_5⟩ := qc6 BK608.out
    obtain ⟨hfz17_0, hfz17_1, hfz17_2, hfz17_3, hfz17_4, hfz17_5⟩ := qf6 BK608.out
    go_wp2_with (first | (go_at_call 40; (with_reducible refine (spec_ConfOk.calls a0_0 a0_1 a0_2 a0_3 a0_4 a0_5 false _ A6.out).mono ?_); rintro e w18 ⟨rfl, hb⟩; replace HO_3 := Aside0.mk (Kd.S_below q70t hb); replace BK608 := blb BK608 hb; replace HB := Aside0.mk (below_step q33t hb); (try clear hb); (try clear hb2); (try clear hk); (try clear hi)))
    go_ret
    exact ⟨_, q73t, q70t, q33t⟩
   subst c7
   rw [if_pos rfl] at H
   replace H := Option.bind_eq_some_iff.mp H
   obtain ⟨⟨t613, t614, t615, t616, t617, t618, t619, t620, t621, t624, t625, t626, t629⟩, A80, H⟩ := H
   try dsimp only at H
   have A8 := Aside0.mk A80
   clear A80
   by_cases c9 : x3_1.length < 925904528653
   rotate_left
   ·rw [if_neg c9] at H
    exact absurd H q87t
   rw [if_pos c9] at H
   have LMc9 := Aside0.mk c9
   clear c9
   obtain ⟨y632, hy632⟩ : ∃ y_ : List (S48), y_ = (x3_1 ++ [(⟨t613, t614, t615, t616, t617, t618, t619, t620, t621, t624, t625, t626, t629⟩ : S48)]) := ⟨_, rfl⟩
   replace H : (spec_TableNew.l0 k1 y632 (wrap64 (x4_1 + 1)) a0_0 a0_1 a0_2 a0_3 a0_4 a0_5) = some r := by first | (rw [hy632]; with_reducible exact H) | (have H2_ := (Option.bind_some _ _).symm.trans H; rw [hy632]; with_reducible exact H2_) | (have H2_ := (Option.bind_some _ _).symm.trans H; with_reducible exact H2_) | with_reducible exact H | (rw [hy632]; exact H) | exact H
   have Ny632 := Aside0.mk hy632
   clear hy632
   have H' := Aside0.mk H
   clear H
   obtain ⟨hcz10_0, hcz10_1, hcz10_2, hcz10_3, hcz10_4, hcz10_5⟩ := qc6 BK608.out
   obtain ⟨hfz10_0, hfz10_1, hfz10_2, hfz10_3, hfz10_4, hfz10_5⟩ := qf6 BK608.out
   go_wp2_with (first | (go_at_call 40; (with_reducible refine (spec_ConfOk.calls a0_0 a0_1 a0_2 a0_3 a0_4 a0_5 true _ A6.out).mono ?_); rintro e w11 ⟨rfl, hb⟩; replace HO_3 := Aside0.mk (Kd.S_below q70t hb); replace BK608 := blb BK608 hb; replace HB := Aside0.mk (below_step q33t hb); (try clear hb); (try clear hb2); (try clear hk); (try clear hi)) | ((with_reducible refine gate_callee (f := 36) rfl ?_); refine goesL_ (some 17) rfl rfl Try.func36 (by kernel_rfl) rfl #[.int .i64 1] rfl q51t ?_; (with_reducible refine (spec_NodeNew.calls 1 t613 t614 t615 t616 t617 t618 t619 t620 t621 t624 t625 t626 t629 _ A8.out).mono ?_); rintro e w12 ⟨v622, v627, v630, rfl, ho0, ho1, ho2, hb⟩; refine ⟨_, rfl, ?_⟩; replace HO_3 := Aside0.mk (Kd.S_mono (Kd.S_told (Kd.S_told (Kd.S_told (Kd.S_old q70t hb) (Kd.R_base ho0)) (Kd.R_base ho1)) (Kd.R_base ho2)) (fun _ h_ => h_.1)); have HO623 := Aside0.mk (Kd.R_lower ho0 (below_size q33t)); have HO628 := Aside0.mk (Kd.R_lower ho1 (below_size q33t)); have HO631 := Aside0.mk (Kd.R_lower ho2 (below_size q33t)); replace BK608 := blb BK608 hb; replace HB := Aside0.mk (below_step q33t hb); (try clear hb); (try clear hb2); (try clear hk); (try clear hi); (try clear ho0); (try clear ho1); (try clear ho2); obtain ⟨Ao14, co14, eo14⟩ := Kd.R_slice HO623.out; subst eo14; obtain ⟨Ao15, co15, eo15⟩ := Kd.R_slice HO628.out; subst eo15; obtain ⟨Ao16, co16, eo16⟩ := Kd.R_slice HO631.out; subst eo16) | ((with_reducible refine gate_builtin (b := .append) (xs := #[.tmp 16, .tmp 18]) rfl ?_); at_builtin; refine Kd.S_append k48 (w0 := w) w.heap.size rfl (.tmp 16) (.tmp 18) 24 48 (.agg #[(.int .i64 0), (.int .i64 0), (.int .i64 0), (.int .i64 0), (.int .i64 0), (.int .i64 0), (.int .i64 0), (.int .i64 0), (.slice none 0 0), (.int .i64 0), (.int .i64 0), (.slice none 0 0), (.slice none 0 0)]) 152 rfl Try.underlying24 info48 rfl q85t q86t u3 x3_1 (⟨t613, t614, t615, t616, t617, t618, t619, t620, t621, t624, t625, t626, t629⟩ : S48) [.int .i64 t613, .int .i64 t614, .int .i64 t615, .int .i64 t616, .int .i64 t617, .int .i64 t618, .int .i64 t619, .int .i64 t620, .slice Ao14 t621.length co14, .int .i64 t624, .int .i64 t625, .slice Ao15 t626.length co15, .slice Ao16 t629.length co16] (fun _ => True) (fun k_ => some k_ = (.slice Ao14 t621.length co14 : Value).ownBlock ∨ some k_ = (.slice Ao15 t626.length co15 : Value).ownBlock ∨ some k_ = (.slice Ao16 t629.length co16 : Value).ownBlock) rfl rfl ?aP (fun k_ hk_ => hk_.elim (fun h_ => ((Kd.R_mono (ok' := fun k_ => ((fun _ => True)) k_ ∧ some k_ ≠ (u3 : Value).ownBlock) (Kd.R_apart' (HO623.out) (Kd.S_typed HO_3.out) q85t) (fun k_ hk => ⟨trivial, hk.2⟩))).1 k_ h_.symm) (fun h_ => h_.elim (fun h_ => ((Kd.R_mono (ok' := fun k_ => ((fun _ => True)) k_ ∧ some k_ ≠ (u3 : Value).ownBlock) (Kd.R_apart' (HO628.out) (Kd.S_typed HO_3.out) q85t) (fun k_ hk => ⟨trivial, hk.2⟩))).1 k_ h_.symm) (fun h_ => ((Kd.R_mono (ok' := fun k_ => ((fun _ => True)) k_ ∧ some k_ ≠ (u3 : Value).ownBlock) (Kd.R_apart' (HO631.out) (Kd.S_typed HO_3.out) q85t) (fun k_ hk => ⟨trivial, hk.2⟩))).1 k_ h_.symm))) ?aF ?aO ?aB ?aS ?aL ?_; (case aP => exact k48_mkM _ _ _ (⟨t613, t614, t615, t616, t617, t618, t619, t620, t621, t624, t625, t626, t629⟩ : S48) (Kd.R_mono (Kd.R_tight rfl (Kd.R_mono (ok' := fun k_ => ((fun _ => True)) k_ ∧ some k_ ≠ (u3 : Value).ownBlock) (Kd.R_apart' (HO623.out) (Kd.S_typed HO_3.out) q85t) (fun k_ hk => ⟨trivial, hk.2⟩))) (fun _ h_ => Or.inl h_)) (Kd.R_mono (Kd.R_tight rfl (Kd.R_mono (ok' := fun k_ => ((fun _ => True)) k_ ∧ some k_ ≠ (u3 : Value).ownBlock) (Kd.R_apart' (HO628.out) (Kd.S_typed HO_3.out) q85t) (fun k_ hk => ⟨trivial, hk.2⟩))) (fun _ h_ => Or.inr (Or.inl h_))) (Kd.R_mono (Kd.R_tight rfl (Kd.R_mono (ok' := fun k_ => ((fun _ => True)) k_ ∧ some k_ ≠ (u3 : Value).ownBlock) (Kd.R_apart' (HO631.out) (Kd.S_typed HO_3.out) q85t) (fun k_ hk => ⟨trivial, hk.2⟩))) (fun _ h_ => Or.inr (Or.inr (h_))))); (case aB => exact q33t); (case aF => exact (fun _ _ => trivial)); (case aO => exact (by (with_reducible repeat (first | apply Kd.S_alloc | apply Kd.S_drewN | apply Kd.S_drew)); exact Kd.S_mono HO_3.out (fun k_ hk => ⟨trivial, fun e_ => e_.elim (fun h_ => hk.1.1.2 h_) (fun h_ => h_.elim (fun h_ => hk.1.2 h_) (fun h_ => hk.2 h_))⟩))); (case aS => exact (below_size q33t)); (case aL => have := LMc9.out; omega); intro v633 w13 ho hb hg hat; rw [← Ny632.out] at ho; replace BK608 := gbb BK608 hg (Kd.S_ne HO_3.out BK608.out q85t); replace HB := Aside0.mk (hb); have HO634 := Aside0.mk (ho); clear HO_3 HO623 HO628 HO631; clear ho hb hg hat))
   go_roundg k1
   case measure => have := HK1.out; omega
   case rel => exact ⟨(y632), (wrap64 (x4_1 + 1)), q81t, H', ⟨q84t⟩, ⟨(by (with_reducible repeat (first | apply Kd.S_alloc | apply Kd.S_drewN | apply Kd.S_drew)); exact HO634.out)⟩, ⟨qbk BK608⟩, ⟨q33t⟩⟩

end Go.Proofs.Ytofpmdgndegalab.QFnTables
