/- What the functions that the law FnExactPoolNew reaches compute, as plain functions, and that the code computes just that (by a program of this session's; the library's functions by hand). No condition. -/
import Derived.Test.YtamelcmioliapaaQFnExactPoolNewx0
import Derived.Test.YtamelcmioliapaaQFnExactPoolNewx2
namespace Go.Proofs.Ytamelcmioliapaa.QFnExactPoolNew
open Go.RowKit Go.Proofs.YtamelcmioliapaaW.PrintWords Go.Proofs.YtamelcmioliapaaW.PrintLast Go.Proofs.YtamelcmioliapaaW.PrintMore
attribute [local go_sem] max2_int min2_int max_two min_two max_three min_three max_four min_four   -- for this text's walks alone
set_option linter.unusedVariables false
set_option linter.unusedSimpArgs false

/-! ### impl_BytesOf: function 78 -/
def impl_BytesOf.f (a0_0 : Int) (a0_1 : Int) (a0_2 : Int) (a0_3 : Int) (a0_4 : Int) (a0_5 : Int) : Option (Int) := (impl_ConfOk.f a0_0 a0_1 a0_2 a0_3 a0_4 a0_5).bind fun t170 => (if t170 = true then (some (wrap64 (a0_0 * a0_1))) else (some 0))
set_option maxHeartbeats 8000000 in
set_option maxRecDepth 100000 in
theorem impl_BytesOf.calls (a0_0 : Int) (a0_1 : Int) (a0_2 : Int) (a0_3 : Int) (a0_4 : Int) (a0_5 : Int) (r : Int) (w : World) (h : impl_BytesOf.f a0_0 a0_1 a0_2 a0_3 a0_4 a0_5 = some r) :
    Calls Try.prog 78 #[.agg #[.int .i64 a0_0, .int .i64 a0_1, .int .i64 a0_2, .int .i64 a0_3, .int .i64 a0_4, .int .i64 a0_5]] w fun e w' => e = .returned (.int .i64 r) ∧ Below w.heap.size w w' := by
  have hu51 := Try.underlying51
  have HB := Aside0.mk (Below.refl w.heap.size w)
  have H : ((impl_ConfOk.f a0_0 a0_1 a0_2 a0_3 a0_4 a0_5).bind fun t170 => (if t170 = true then (some (wrap64 (a0_0 * a0_1))) else (some 0))) = some r := h
  clear h
  replace H := Option.bind_eq_some_iff.mp H
  obtain ⟨t170, A20, H⟩ := H
  replace H : (if t170 = true then (some (wrap64 (a0_0 * a0_1))) else (some 0)) = some r := H
  have A2 := Aside0.mk A20
  clear A20
  by_cases c3 : t170 = true
  · subst c3
    have H1 : (some (wrap64 (a0_0 * a0_1))) = some r := by rw [if_pos rfl] at H; exact H
    clear H
    have H := H1
    clear H1
    obtain rfl := Option.some.inj H
    go_enter Try.func78, Try.ntmps78
    go_wp2_with (first | ((with_reducible refine gate_dst (N := 1) rfl ?_); refine box_event ?hg (N := 1) ?hd (cs := #[.int .i64 a0_0, .int .i64 a0_1, .int .i64 a0_2, .int .i64 a0_3, .int .i64 a0_4, .int .i64 a0_5]) (t := 51) ?hr ?_; (case hd => rfl); (case hg => rfl); (case hr => first | (go_simp; done) | (go_simp; rfl)); intro gb169 hg w4 hbox hb; have n0_ := Aside0.mk (below_step (by repeat (first | (with_reducible first | exact HB.out | apply below_alloc | apply pw_below_drewN | apply below_drew1) | exact HB.out)) hb); have n1_ := Aside0.mk (hbox); have n2_ := Aside0.mk ((by rw [hg]; exact (below_size (by repeat (first | (with_reducible first | exact HB.out | apply below_alloc | apply pw_below_drewN | apply below_drew1) | exact HB.out))) : w.heap.size ≤ gb169)); have n3_ := Aside0.mk ((by rw [hg]; exact (below_size (by repeat (first | (with_reducible first | exact HB.out | apply below_alloc | apply pw_below_drewN | apply below_drew1) | exact HB.out))) : w.heap.size ≤ gb169)); clear HB; have HB := n0_; have BK169 := n1_; have GW169 := n2_; have GE169 := n3_; clear n0_ n1_ n2_ n3_; clear hb hbox hg; have hcz5_0 : w4.cell? ⟨gb169, 0, none⟩ = some (.int .i64 a0_0) := (blk_cell BK169.out 0).trans rfl; have hcz5_1 : w4.cell? ⟨gb169, 1, none⟩ = some (.int .i64 a0_1) := (blk_cell BK169.out 1).trans rfl; have hcz5_2 : w4.cell? ⟨gb169, 2, none⟩ = some (.int .i64 a0_2) := (blk_cell BK169.out 2).trans rfl; have hcz5_3 : w4.cell? ⟨gb169, 3, none⟩ = some (.int .i64 a0_3) := (blk_cell BK169.out 3).trans rfl; have hcz5_4 : w4.cell? ⟨gb169, 4, none⟩ = some (.int .i64 a0_4) := (blk_cell BK169.out 4).trans rfl; have hcz5_5 : w4.cell? ⟨gb169, 5, none⟩ = some (.int .i64 a0_5) := (blk_cell BK169.out 5).trans rfl; have hfz5_0 := blk_frozen BK169.out 0; have hfz5_1 := blk_frozen BK169.out 1; have hfz5_2 := blk_frozen BK169.out 2; have hfz5_3 := blk_frozen BK169.out 3; have hfz5_4 := blk_frozen BK169.out 4; have hfz5_5 := blk_frozen BK169.out 5) | ((with_reducible refine gate_callee (f := 77) rfl ?_); refine goesL_ (some 4) rfl rfl Try.func77 (by kernel_rfl) rfl #[.agg #[.int .i64 a0_0, .int .i64 a0_1, .int .i64 a0_2, .int .i64 a0_3, .int .i64 a0_4, .int .i64 a0_5]] rfl (by (try simp only [List.map_toArray, List.map_cons, List.map_nil]); first | done | rfl | (simp only [List.length_drop, List.length_take]; rfl)) ?_; (with_reducible refine (impl_ConfOk.calls a0_0 a0_1 a0_2 a0_3 a0_4 a0_5 true _ A2.out).mono ?_); rintro e w6 ⟨rfl, hb⟩; refine ⟨_, rfl, ?_⟩; have n0_ := Aside0.mk (blk_below (g := gb169) (o := .cells #[.int .i64 a0_0, .int .i64 a0_1, .int .i64 a0_2, .int .i64 a0_3, .int .i64 a0_4, .int .i64 a0_5] 51 (0, 0)) (by (with_reducible repeat (first | refine blk_drewN ?_ _ | refine blk_drew ?_ | refine blk_alloc ?_ _)); exact BK169.out) hb); have n1_ := Aside0.mk (below_step (by repeat (first | (with_reducible first | exact HB.out | apply below_alloc | apply pw_below_drewN | apply below_drew1 | refine below_set ?_ GE169.out) | exact HB.out)) hb); clear BK169; clear HB; have BK169 := n0_; have HB := n1_; clear n0_ n1_; (try clear hb); (try clear hb2); (try clear hk); (try clear hi); have hcz7_0 : w6.cell? ⟨gb169, 0, none⟩ = some (.int .i64 a0_0) := (blk_cell BK169.out 0).trans rfl; have hcz7_1 : w6.cell? ⟨gb169, 1, none⟩ = some (.int .i64 a0_1) := (blk_cell BK169.out 1).trans rfl; have hcz7_2 : w6.cell? ⟨gb169, 2, none⟩ = some (.int .i64 a0_2) := (blk_cell BK169.out 2).trans rfl; have hcz7_3 : w6.cell? ⟨gb169, 3, none⟩ = some (.int .i64 a0_3) := (blk_cell BK169.out 3).trans rfl; have hcz7_4 : w6.cell? ⟨gb169, 4, none⟩ = some (.int .i64 a0_4) := (blk_cell BK169.out 4).trans rfl; have hcz7_5 : w6.cell? ⟨gb169, 5, none⟩ = some (.int .i64 a0_5) := (blk_cell BK169.out 5).trans rfl; have hfz7_0 := blk_frozen BK169.out 0; have hfz7_1 := blk_frozen BK169.out 1; have hfz7_2 := blk_frozen BK169.out 2; have hfz7_3 := blk_frozen BK169.out 3; have hfz7_4 := blk_frozen BK169.out 4; have hfz7_5 := blk_frozen BK169.out 5))
    go_ret
    exact ⟨by first | rfl | (simp [errW_none, errW_some] <;> rfl) | (simp [*, errW_none, errW_some] <;> rfl), by repeat (first | (with_reducible first | exact HB.out | apply below_alloc | apply pw_below_drewN | apply below_drew1 | refine below_set ?_ GE169.out) | exact HB.out)⟩
  · replace c3 := Bool.eq_false_iff.mpr c3
    subst c3
    have H1 : (some 0) = some r := by rw [if_neg (show ¬ (false = true) by decide)] at H; exact H
    clear H
    have H := H1
    clear H1
    obtain rfl := Option.some.inj H
    go_enter Try.func78, Try.ntmps78
    go_wp2_with (first | ((with_reducible refine gate_dst (N := 1) rfl ?_); refine box_event ?hg (N := 1) ?hd (cs := #[.int .i64 a0_0, .int .i64 a0_1, .int .i64 a0_2, .int .i64 a0_3, .int .i64 a0_4, .int .i64 a0_5]) (t := 51) ?hr ?_; (case hd => rfl); (case hg => rfl); (case hr => first | (go_simp; done) | (go_simp; rfl)); intro gb169 hg w8 hbox hb; have n0_ := Aside0.mk (below_step (by repeat (first | (with_reducible first | exact HB.out | apply below_alloc | apply pw_below_drewN | apply below_drew1) | exact HB.out)) hb); have n1_ := Aside0.mk (hbox); have n2_ := Aside0.mk ((by rw [hg]; exact (below_size (by repeat (first | (with_reducible first | exact HB.out | apply below_alloc | apply pw_below_drewN | apply below_drew1) | exact HB.out))) : w.heap.size ≤ gb169)); have n3_ := Aside0.mk ((by rw [hg]; exact (below_size (by repeat (first | (with_reducible first | exact HB.out | apply below_alloc | apply pw_below_drewN | apply below_drew1) | exact HB.out))) : w.heap.size ≤ gb169)); clear HB; have HB := n0_; have BK169 := n1_; have GW169 := n2_; have GE169 := n3_; clear n0_ n1_ n2_ n3_; clear hb hbox hg; have hcz9_0 : w8.cell? ⟨gb169, 0, none⟩ = some (.int .i64 a0_0) := (blk_cell BK169.out 0).trans rfl; have hcz9_1 : w8.cell? ⟨gb169, 1, none⟩ = some (.int .i64 a0_1) := (blk_cell BK169.out 1).trans rfl; have hcz9_2 : w8.cell? ⟨gb169, 2, none⟩ = some (.int .i64 a0_2) := (blk_cell BK169.out 2).trans rfl; have hcz9_3 : w8.cell? ⟨gb169, 3, none⟩ = some (.int .i64 a0_3) := (blk_cell BK169.out 3).trans rfl; have hcz9_4 : w8.cell? ⟨gb169, 4, none⟩ = some (.int .i64 a0_4) := (blk_cell BK169.out 4).trans rfl; have hcz9_5 : w8.cell? ⟨gb169, 5, none⟩ = some (.int .i64 a0_5) := (blk_cell BK169.out 5).trans rfl; have hfz9_0 := blk_frozen BK169.out 0; have hfz9_1 := blk_frozen BK169.out 1; have hfz9_2 := blk_frozen BK169.out 2; have hfz9_3 := blk_frozen BK169.out 3; have hfz9_4 := blk_frozen BK169.out 4; have hfz9_5 := blk_frozen BK169.out 5) | ((with_reducible refine gate_callee (f := 77) rfl ?_); refine goesL_ (some 4) rfl rfl Try.func77 (by kernel_rfl) rfl #[.agg #[.int .i64 a0_0, .int .i64 a0_1, .int .i64 a0_2, .int .i64 a0_3, .int .i64 a0_4, .int .i64 a0_5]] rfl (by (try simp only [List.map_toArray, List.map_cons, List.map_nil]); first | done | rfl | (simp only [List.length_drop, List.length_take]; rfl)) ?_; (with_reducible refine (impl_ConfOk.calls a0_0 a0_1 a0_2 a0_3 a0_4 a0_5 false _ A2.out).mono ?_); rintro e w10 ⟨rfl, hb⟩; refine ⟨_, rfl, ?_⟩; have n0_ := Aside0.mk (blk_below (g := gb169) (o := .cells #[.int .i64 a0_0, .int .i64 a0_1, .int .i64 a0_2, .int .i64 a0_3, .int .i64 a0_4, .int .i64 a0_5] 51 (0, 0)) (by (with_reducible repeat (first | refine blk_drewN ?_ _ | refine blk_drew ?_ | refine blk_alloc ?_ _)); exact BK169.out) hb); have n1_ := Aside0.mk (below_step (by repeat (first | (with_reducible first | exact HB.out | apply below_alloc | apply pw_below_drewN | apply below_drew1 | refine below_set ?_ GE169.out) | exact HB.out)) hb); clear BK169; clear HB; have BK169 := n0_; have HB := n1_; clear n0_ n1_; (try clear hb); (try clear hb2); (try clear hk); (try clear hi)))
    go_ret
    exact ⟨by first | rfl | (simp [errW_none, errW_some] <;> rfl) | (simp [*, errW_none, errW_some] <;> rfl), by repeat (first | (with_reducible first | exact HB.out | apply below_alloc | apply pw_below_drewN | apply below_drew1 | refine below_set ?_ GE169.out) | exact HB.out)⟩

/-! ### slices_Repeat_int_int: function 86 (by hand) -/
/-- 'xs[i:j]' by its address. -/
theorem slices_Repeat_int_int.cut {P : Program} (t e : TypeId) {i : TypeInfo} (ht : P.underlying t = some (.slice e)) (hi : P.info? e = some i) (hsz : i.size = 1) (A : Option Addr) (n c : Nat) (a b : Int) (h0 : 0 ≤ a) (h1 : a ≤ b) (hm : b ≤ n) (hc : n ≤ c) :
    ∀ W : World, (Instr.slice t (.slice A n c) (some (.int .i64 a)) (some (.int .i64 b)) none).run P W = .ok (.slice (if c = a.toNat then A else A.map (·.add a.toNat)) (b.toNat - a.toNat) (c - a.toNat)) W := by
  intro W
  have hel : P.elem t = e := by simp [Program.elem, ht]
  have hu : P.underlying t = some (.slice (P.elem t)) := by rw [hel]; exact ht
  rw [run_slice_lh W t A n c hu .i64 .i64 a b h0 h1 (by omega), hel]
  simp [sizeOf, typeInfo, hi, hsz, sliced, Result.andThen]
/-- A part of a row of scalars of one's own is written anew: what the row holds then. -/
theorem slices_Repeat_int_int.laid {α : Type} {enc : α → Value} {h1 : ∀ x, (enc x).oneCell' = true} {e : TypeId} {base : Nat} {ok : Nat → Prop} {W : World} {v : Value} {xs ys : List α} {g : Nat} (HO : (Kd.scalar enc h1).R e W base ok v xs) (hg : v.ownBlock = some g) (i : Nat) (hfit : i + ys.length ≤ xs.length) :
    (Kd.scalar enc h1).R e (W.setCells g i (encs enc ys)) base ok v (xs.take i ++ (ys ++ xs.drop (i + ys.length))) ∧ W.grownBy (W.setCells g i (encs enc ys)) v.ownBlock ∧ (∀ j, j < ys.length → (W.cell? ⟨g, i + j, none⟩).isSome = true) ∧ (∀ j, j < ys.length → W.frozen? ⟨g, i + j, none⟩ = false) := by
  have hown := Kd.own_of_R HO
  rcases hown.2 with ⟨rfl, hx0⟩ | ⟨g', cap, cur, hv, hb, hh, hnc, hcm, hcs, htake⟩
  · simp [Value.ownBlock] at hg
  obtain rfl : g' = g := by rw [hv] at hg; simpa [Value.ownBlock] using hg
  have hcl : cur.toList.length = cur.size := Array.length_toList
  obtain ⟨cur', h3, h4, h5⟩ := setCells_row (encs enc ys) i W cur hh (by rw [encs_length]; omega)
  obtain ⟨s1, s2, s3, s4⟩ := setCells_same g' (encs enc ys) i W
  have hln : (xs.take i ++ (ys ++ xs.drop (i + ys.length))).length = xs.length := by
    rw [List.length_append, List.length_append, List.length_take, List.length_drop]
    omega
  refine ⟨Kd.R_of_own ?_ HO.1, ⟨s1, s2, s3, by rw [s4]; exact Nat.le_refl _, fun k _ hk => setCells_far _ _ k (fun he => hk (by rw [hv, he]; simp [Value.ownBlock]))⟩, fun j hj => by rw [cell_of_row W g' _ cur e (0, 0) hh]; simp; omega, fun j _ => blk_frozen hh _⟩
  rw [hln]
  refine ⟨by rw [encs_length, hln, Nat.mul_one], .inr ⟨g', cap, cur', hv, hb, h3, hnc, hcm, by rw [h4, hcs], ?_⟩⟩
  rw [h5, Nat.mul_one, encs_append, encs_append]
  have htk : cur.toList.take xs.length = encs enc xs := by rw [← htake, Nat.mul_one]
  have ht1 : encs enc (xs.take i) = (encs enc xs).take i := by simp [encs, List.map_take]
  have hd1 : encs enc (xs.drop (i + ys.length)) = (encs enc xs).drop (i + ys.length) := by simp [encs, List.map_drop]
  rw [ht1, hd1, ← htk, encs_length, List.take_take, Nat.min_eq_left (by omega), List.append_assoc, List.take_append, List.length_take, List.take_of_length_le (by rw [List.length_take]; omega), List.take_append, List.take_of_length_le (l := encs enc ys) (by rw [encs_length]; omega), encs_length, List.drop_take]
  congr 3
  omega
/-- clear(xs[i:i+m]), xs a row of numbers of one's own. -/
theorem slices_Repeat_int_int.clear {P : Program} {ops : Array Oper} {rest : List Oper} {o : Oper} {a : Act} {Q : Exit → Act → World → Prop} {w0 W : World} (base : Nat) (hgd : o.guard = none) (s : Operand) (t e : TypeId) (k : IntKind)
    (ho : o.op = .call { callee := .builtin .clear, args := #[s], argTypes := #[t] }) (ht : P.underlying t = some (.slice e)) (hz : ∀ w, (zeroValue e).run P w = .ok (.int k 0) w)
    (v : Value) (xs : List Int) (i m : Nat) (him : i + m ≤ xs.length) (A : Option Addr) (c : Nat) (ok : Nat → Prop) (hs : a.eval s = .slice A m c) (hA : 0 < m → ∀ g, v.ownBlock = some g → A = some ⟨g, i, none⟩)
    (HO : (Kd.int k).R e W base ok v xs) (HB : Below base w0 W) (hbase : base ≤ W.heap.size)
    (h : ∀ w1, (Kd.int k).R e w1 base ok v (xs.take i ++ (List.replicate m 0 ++ xs.drop (i + m))) → Below base w0 w1 → W.grownBy w1 v.ownBlock → wpList P ops Q rest (a.put o.dst (.tuple #[])) w1) :
    wpList P ops Q (o :: rest) a W := by
  have hown := Kd.own_of_R HO
  have fin : ∀ w1, (Builtin.clear_ #[t] o.type #[.slice A m c]).run P W = .ok (.tuple #[]) w1 → (Kd.int k).R e w1 base ok v (xs.take i ++ (List.replicate m 0 ++ xs.drop (i + m))) → W.grownBy w1 v.ownBlock → wpList P ops Q (o :: rest) a W := by
    intro w1 hr hrow hg
    refine wpList_plain hgd fun K hK => ?_
    unfold Oper.wp execOp
    simp only [ho, resolve, invoke, builtin, Sem.run_bind, Sem.run_pure, Result.andThen_ok, List.map_toArray, List.map_cons, List.map_nil, hs, hr]
    exact hK _ _ (h w1 hrow (HB.grown hg hbase (own_base hown)) hg)
  by_cases hm : m = 0
  · subst hm
    refine fin W (by cases A <;> simp [Builtin.clear_, run_underlying ht]) ?_ (World.grownBy.refl W _)
    have e1 : xs.take i ++ (List.replicate 0 0 ++ xs.drop (i + 0)) = xs := by simp
    rw [e1]; exact HO
  · rcases hown.2 with ⟨_, hx0⟩ | ⟨g, cap, cur, hv, _⟩
    · omega
    have hg : v.ownBlock = some g := by rw [hv]; simp [Value.ownBlock]
    obtain rfl := hA (by omega) g hg
    obtain ⟨h1, h2, h3, h4⟩ := slices_Repeat_int_int.laid (ys := List.replicate m (0 : Int)) HO hg i (by simpa using him)
    rw [List.length_replicate] at h1 h3 h4
    have hen : encs (Value.int k) (List.replicate m (0 : Int)) = List.replicate m (.int k 0) := by simp [encs]
    rw [hen] at h1 h2
    exact fin _ (Lib.run_clear_slice W t e o.type (.int k 0) ht hz rfl rfl g i m c (by omega) h3 h4) h1 h2
/-- Where a cut of a row of one's own begins. -/
theorem slices_Repeat_int_int.addr {α : Type} {d : Kd α} {e : Nat} {w : World} {base : Nat} {ok : Nat → Prop} {A : Option Addr} {n c : Nat} {xs : List α} (h : d.R e w base ok (.slice A n c) xs) {i m : Nat} (hfit : i + m ≤ xs.length) :
    0 < m → ∀ g, (Value.slice A n c).ownBlock = some g → (if c = i then A else A.map (·.add i)) = some ⟨g, i, none⟩ := by
  intro hm g hg
  obtain ⟨g', cap, hv, _, _, cells, _⟩ := Kd.R_form h (by omega)
  obtain ⟨hn, hc, _⟩ := Kd.R_reads' h
  injection hv with h1 h2 h3
  subst h1
  obtain rfl : g' = g := by simpa [Value.ownBlock] using hg
  rw [if_neg (by omega), Option.map_some, add_plain]
/-- The operation 'xs[i:j]'. -/
theorem slices_Repeat_int_int.cutop {P : Program} {o : Oper} {f : Operand → Value} {W : World} {t e : TypeId} {i : TypeInfo} {x lo hi_ : Operand} {A : Option Addr} {n c : Nat} {p q : Int} (ho : o.op = .slice t x (some lo) (some hi_) none) (ht : P.underlying t = some (.slice e)) (hi : P.info? e = some i) (hsz : i.size = 1)
    (hx : f x = .slice A n c) (hlo : f lo = .int .i64 p) (hhi : f hi_ = .int .i64 q) (h0 : 0 ≤ p) (h1 : p ≤ q) (hm : q ≤ n) (hc : n ≤ c) :
    (execOp f o).run P W = .ok (.value (.slice (if c = p.toNat then A else A.map (·.add p.toNat)) (q.toNat - p.toNat) (c - p.toNat))) W := by
  have h := slices_Repeat_int_int.cut (P := P) t e ht hi hsz A n c p q h0 h1 hm hc W
  unfold execOp
  simp only [ho, Option.map_some, Option.map_none, hx, hlo, hhi, Sem.run_bind, Instr.sliceAt, run_underlying ht, Result.andThen_ok, h, Sem.run_pure]
/-- The operation 'xs[i:]'. -/
theorem slices_Repeat_int_int.tailop {P : Program} {o : Oper} {f : Operand → Value} {W : World} {t e : TypeId} {i : TypeInfo} {x lo : Operand} {A : Option Addr} {n c : Nat} {p : Int} (ho : o.op = .slice t x (some lo) none none) (ht : P.underlying t = some (.slice e)) (hi : P.info? e = some i) (hsz : i.size = 1)
    (hx : f x = .slice A n c) (hlo : f lo = .int .i64 p) (h0 : 0 ≤ p) (h1 : p ≤ n) :
    (execOp f o).run P W = .ok (.value (.slice (if c = p.toNat then A else A.map (·.add p.toNat)) (n - p.toNat) (c - p.toNat))) W := by
  have hel : P.elem t = e := by simp [Program.elem, ht]
  have hu : P.underlying t = some (.slice (P.elem t)) := by rw [hel]; exact ht
  have h := run_slice_l W t A n c hu .i64 p h0 h1
  rw [hel] at h
  unfold execOp
  simp only [ho, Option.map_some, Option.map_none, hx, hlo, Sem.run_bind, Instr.sliceAt, run_underlying ht, Result.andThen_ok, h, Sem.run_pure]
  simp [sizeOf, typeInfo, hi, hsz, sliced, Result.andThen]
/-- copy(xs[i:], ys), xs a row of numbers of one's own that holds so many, ys a row that is read. -/
theorem slices_Repeat_int_int.copyat {P : Program} {ops : Array Oper} {rest : List Oper} {o : Oper} {a : Act} {Q : Exit → Act → World → Prop} {w0 W : World} (base : Nat) (hgd : o.guard = none) (s x : Operand) (t t' e : TypeId) (k : IntKind)
    (ho : o.op = .call { callee := .builtin .copy, args := #[s, x], argTypes := #[t, t'] }) (ht : P.underlying t = some (.slice e)) (hinfo : (P.info? e).map (·.size) = some 1)
    (v : Value) (xs ys : List Int) (i : Nat) (him : i + ys.length ≤ xs.length) (A : Option Addr) (md c : Nat) (hmd : ys.length ≤ md) (A2 : Option Addr) (c2 : Nat) (ok : Nat → Prop) (hs : a.eval s = .slice A md c) (hx : a.eval x = .slice A2 ys.length c2) (hA : 0 < ys.length → ∀ g, v.ownBlock = some g → A = some ⟨g, i, none⟩)
    (HO : (Kd.int k).R e W base ok v xs) (HR : (Kd.int k).C W A2 ys.length ys) (HB : Below base w0 W) (hbase : base ≤ W.heap.size)
    (h : ∀ w1, (Kd.int k).R e w1 base ok v (xs.take i ++ (ys ++ xs.drop (i + ys.length))) → Below base w0 w1 → W.grownBy w1 v.ownBlock → wpList P ops Q rest (a.put o.dst (.int .i64 (ys.length : Int))) w1) :
    wpList P ops Q (o :: rest) a W := by
  have hown := Kd.own_of_R HO
  have fin : ∀ w1, (Builtin.copy_ #[t, t'] o.type #[.slice A md c, .slice A2 ys.length c2]).run P W = .ok (goInt ys.length) w1 → (Kd.int k).R e w1 base ok v (xs.take i ++ (ys ++ xs.drop (i + ys.length))) → W.grownBy w1 v.ownBlock → wpList P ops Q (o :: rest) a W := by
    intro w1 hr hrow hg
    refine wpList_plain hgd fun K hK => ?_
    unfold Oper.wp execOp
    simp only [ho, resolve, invoke, builtin, Sem.run_bind, Sem.run_pure, Result.andThen_ok, List.map_toArray, List.map_cons, List.map_nil, hs, hx, hr]
    exact hK _ _ (h w1 hrow (HB.grown hg hbase (own_base hown)) hg)
  by_cases hm : ys.length = 0
  · have hr := run_copy_none (P := P) W t t' o.type e A A2 md c ys.length c2 ht hinfo (by rw [hm]; exact Nat.zero_min _)
    obtain rfl := List.eq_nil_of_length_eq_zero hm
    exact fin W hr (by simpa using HO) (World.grownBy.refl W _)
  · rcases hown.2 with ⟨_, hx0⟩ | ⟨g, cap, cur, hv, _⟩
    · omega
    have hg : v.ownBlock = some g := by rw [hv]; simp [Value.ownBlock]
    obtain rfl := hA (by omega) g hg
    obtain ⟨h1, h2, h3, h4⟩ := slices_Repeat_int_int.laid (ys := ys) HO hg i him
    have hR := Kd.reads_of_C (enc := Value.int k) (d := (0 : Int)) (h1 := fun _ => rfl) HR
    obtain ⟨ad, rfl, hc⟩ := hR.2.2 (by omega)
    have hkl : (encs (Value.int k) ys).length = ys.length := encs_length _
    have hr := run_copy_cells (P := P) W t t' o.type e g i md c ad ys.length c2 (encs (Value.int k) ys) ht hinfo (by rw [hkl]; exact (Nat.min_eq_left hmd).symm)
      (fun j u hu => by
        have hj : j < ys.length := by
          rcases Nat.lt_or_ge j ys.length with h | h
          · exact h
          · rw [List.getElem?_eq_none (by rw [encs_length]; exact h)] at hu
            cases hu
        rw [encs_get (d := (0 : Int)) _ j hj] at hu
        rw [hc j hj, ← hu])
      (fun j hj => h3 j (by rw [hkl] at hj; exact hj)) (fun j hj => h4 j (by rw [hkl] at hj; exact hj)) (by intro u hu; simp only [encs, List.mem_map] at hu; obtain ⟨q, _, rfl⟩ := hu; rfl)
    rw [hkl] at hr
    exact fin _ hr h1 h2
/-- copy(xs[i:], zs), ys the cells of zs that go over. -/
theorem slices_Repeat_int_int.copyms {P : Program} {ops : Array Oper} {rest : List Oper} {o : Oper} {a : Act} {Q : Exit → Act → World → Prop} {w0 W : World} (base : Nat) (hgd : o.guard = none) (s x : Operand) (t t' e : TypeId) (k : IntKind)
    (ho : o.op = .call { callee := .builtin .copy, args := #[s, x], argTypes := #[t, t'] }) (ht : P.underlying t = some (.slice e)) (hinfo : (P.info? e).map (·.size) = some 1)
    (v : Value) (xs ys : List Int) (i : Nat) (him : i + ys.length ≤ xs.length) (A : Option Addr) (md c ms : Nat) (hmd : ys.length = Nat.min ms md) (A2 : Option Addr) (c2 : Nat) (ok : Nat → Prop) (hs : a.eval s = .slice A md c) (hx : a.eval x = .slice A2 ms c2) (hA : 0 < ys.length → ∀ g, v.ownBlock = some g → A = some ⟨g, i, none⟩)
    (HO : (Kd.int k).R e W base ok v xs) (HR : (Kd.int k).C W A2 ys.length ys) (HB : Below base w0 W) (hbase : base ≤ W.heap.size)
    (h : ∀ w1, (Kd.int k).R e w1 base ok v (xs.take i ++ (ys ++ xs.drop (i + ys.length))) → Below base w0 w1 → W.grownBy w1 v.ownBlock → wpList P ops Q rest (a.put o.dst (.int .i64 (ys.length : Int))) w1) :
    wpList P ops Q (o :: rest) a W := by
  have hown := Kd.own_of_R HO
  have fin : ∀ w1, (Builtin.copy_ #[t, t'] o.type #[.slice A md c, .slice A2 ms c2]).run P W = .ok (goInt ys.length) w1 → (Kd.int k).R e w1 base ok v (xs.take i ++ (ys ++ xs.drop (i + ys.length))) → W.grownBy w1 v.ownBlock → wpList P ops Q (o :: rest) a W := by
    intro w1 hr hrow hg
    refine wpList_plain hgd fun K hK => ?_
    unfold Oper.wp execOp
    simp only [ho, resolve, invoke, builtin, Sem.run_bind, Sem.run_pure, Result.andThen_ok, List.map_toArray, List.map_cons, List.map_nil, hs, hx, hr]
    exact hK _ _ (h w1 hrow (HB.grown hg hbase (own_base hown)) hg)
  by_cases hm : ys.length = 0
  · have hr := run_copy_none (P := P) W t t' o.type e A A2 md c ms c2 ht hinfo (by rw [← hmd]; exact hm)
    obtain rfl := List.eq_nil_of_length_eq_zero hm
    exact fin W hr (by simpa using HO) (World.grownBy.refl W _)
  · rcases hown.2 with ⟨_, hx0⟩ | ⟨g, cap, cur, hv, _⟩
    · omega
    have hg : v.ownBlock = some g := by rw [hv]; simp [Value.ownBlock]
    obtain rfl := hA (by omega) g hg
    obtain ⟨h1, h2, h3, h4⟩ := slices_Repeat_int_int.laid (ys := ys) HO hg i him
    have hR := Kd.reads_of_C (enc := Value.int k) (d := (0 : Int)) (h1 := fun _ => rfl) HR
    obtain ⟨ad, rfl, hc⟩ := hR.2.2 (by omega)
    have hkl : (encs (Value.int k) ys).length = ys.length := encs_length _
    have hr := run_copy_cells (P := P) W t t' o.type e g i md c ad ms c2 (encs (Value.int k) ys) ht hinfo (by rw [hkl]; exact hmd)
      (fun j u hu => by
        have hj : j < ys.length := by
          rcases Nat.lt_or_ge j ys.length with h | h
          · exact h
          · rw [List.getElem?_eq_none (by rw [encs_length]; exact h)] at hu
            cases hu
        rw [encs_get (d := (0 : Int)) _ j hj] at hu
        rw [hc j hj, ← hu])
      (fun j hj => h3 j (by rw [hkl] at hj; exact hj)) (fun j hj => h4 j (by rw [hkl] at hj; exact hj)) (by intro u hu; simp only [encs, List.mem_map] at hu; obtain ⟨q, _, rfl⟩ := hu; rfl)
    rw [hkl] at hr
    exact fin _ hr h1 h2
/-- The same as a step of a region that draws its order. -/
theorem slices_Repeat_int_int.stepms {P : Program} {ops : Array Oper} {o : Oper} {a : Act} {K : Act → World → Prop} {Q : Exit → Act → World → Prop} {E : Prop} {w0 W : World} (base : Nat) (hgd : o.guard = none) (s x : Operand) (t t' e : TypeId) (k : IntKind)
    (ho : o.op = .call { callee := .builtin .copy, args := #[s, x], argTypes := #[t, t'] }) (ht : P.underlying t = some (.slice e)) (hinfo : (P.info? e).map (·.size) = some 1)
    (v : Value) (xs ys : List Int) (i : Nat) (him : i + ys.length ≤ xs.length) (A : Option Addr) (md c ms : Nat) (hmd : ys.length = Nat.min ms md) (A2 : Option Addr) (c2 : Nat) (ok : Nat → Prop) (hs : a.eval s = .slice A md c) (hx : a.eval x = .slice A2 ms c2) (hA : 0 < ys.length → ∀ g, v.ownBlock = some g → A = some ⟨g, i, none⟩)
    (HO : (Kd.int k).R e W base ok v xs) (HR : (Kd.int k).C W A2 ys.length ys) (HB : Below base w0 W) (hbase : base ≤ W.heap.size)
    (h : ∀ w1, (Kd.int k).R e w1 base ok v (xs.take i ++ (ys ++ xs.drop (i + ys.length))) → Below base w0 w1 → W.grownBy w1 v.ownBlock → K (a.put o.dst (.int .i64 (ys.length : Int))) w1) :
    if Region.wanted o (yielded ops a.tmps) = true then Oper.wp P o a W K Q else E := by
  have hw_ : Region.wanted o (yielded ops a.tmps) = true := by simp [Region.wanted, hgd]
  rw [if_pos hw_]
  have hown := Kd.own_of_R HO
  have fin : ∀ w1, (Builtin.copy_ #[t, t'] o.type #[.slice A md c, .slice A2 ms c2]).run P W = .ok (goInt ys.length) w1 → (Kd.int k).R e w1 base ok v (xs.take i ++ (ys ++ xs.drop (i + ys.length))) → W.grownBy w1 v.ownBlock → Oper.wp P o a W K Q := by
    intro w1 hr hrow hg
    unfold Oper.wp execOp
    simp only [ho, resolve, invoke, builtin, Sem.run_bind, Sem.run_pure, Result.andThen_ok, List.map_toArray, List.map_cons, List.map_nil, hs, hx, hr]
    exact h w1 hrow (HB.grown hg hbase (own_base hown)) hg
  by_cases hm : ys.length = 0
  · have hr := run_copy_none (P := P) W t t' o.type e A A2 md c ms c2 ht hinfo (by rw [← hmd]; exact hm)
    obtain rfl := List.eq_nil_of_length_eq_zero hm
    exact fin W hr (by simpa using HO) (World.grownBy.refl W _)
  · rcases hown.2 with ⟨_, hx0⟩ | ⟨g, cap, cur, hv, _⟩
    · omega
    have hg : v.ownBlock = some g := by rw [hv]; simp [Value.ownBlock]
    obtain rfl := hA (by omega) g hg
    obtain ⟨h1, h2, h3, h4⟩ := slices_Repeat_int_int.laid (ys := ys) HO hg i him
    have hR := Kd.reads_of_C (enc := Value.int k) (d := (0 : Int)) (h1 := fun _ => rfl) HR
    obtain ⟨ad, rfl, hc⟩ := hR.2.2 (by omega)
    have hkl : (encs (Value.int k) ys).length = ys.length := encs_length _
    have hr := run_copy_cells (P := P) W t t' o.type e g i md c ad ms c2 (encs (Value.int k) ys) ht hinfo (by rw [hkl]; exact hmd)
      (fun j u hu => by
        have hj : j < ys.length := by
          rcases Nat.lt_or_ge j ys.length with h | h
          · exact h
          · rw [List.getElem?_eq_none (by rw [encs_length]; exact h)] at hu
            cases hu
        rw [encs_get (d := (0 : Int)) _ j hj] at hu
        rw [hc j hj, ← hu])
      (fun j hj => h3 j (by rw [hkl] at hj; exact hj)) (fun j hj => h4 j (by rw [hkl] at hj; exact hj)) (by intro u hu; simp only [encs, List.mem_map] at hu; obtain ⟨q, _, rfl⟩ := hu; rfl)
    rw [hkl] at hr
    exact fin _ hr h1 h2
set_option maxHeartbeats 4000000 in
theorem slices_Repeat_int_int.mul64 (y : Int) (h0 : 0 ≤ y) (h1 : y ≤ 12) (w : World) : Calls Try.prog 96 #[.int .u64 1, .int .u64 y] w fun e w' => e = .returned (.tuple #[.int .u64 0, .int .u64 y]) ∧ w = w' := by
  have hs : y = 0 ∨ y = 1 ∨ y = 2 ∨ y = 3 ∨ y = 4 ∨ y = 5 ∨ y = 6 ∨ y = 7 ∨ y = 8 ∨ y = 9 ∨ y = 10 ∨ y = 11 ∨ y = 12 := by omega
  clear h0 h1
  rcases hs with rfl | rfl | rfl | rfl | rfl | rfl | rfl | rfl | rfl | rfl | rfl | rfl | rfl
  all_goals
    go_enter Try.func96, Try.ntmps96
    go_wp2
    go_ret2
    exact ⟨rfl, rfl⟩
theorem slices_Repeat_int_int.mul (y : Int) (h0 : 0 ≤ y) (h1 : y ≤ 12) (w : World) : Calls Try.prog 92 #[.int .u64 1, .int .u64 y] w fun e w' => e = .returned (.tuple #[.int .u64 0, .int .u64 y]) ∧ w = w' := by
  go_enter Try.func92, Try.ntmps92
  go_wp2_with (go_at_call 96; refine (slices_Repeat_int_int.mul64 y h0 h1 _).mono ?_; rintro e w' ⟨rfl, rfl⟩)
  go_ret2
  exact ⟨rfl, rfl⟩
theorem slices_Repeat_int_int.row (x : Int) (c n m : Nat) (h : n + m ≤ c) : (List.replicate n x ++ List.replicate (c - n) (0 : Int)).take n ++ (List.replicate m x ++ (List.replicate n x ++ List.replicate (c - n) (0 : Int)).drop (n + (List.replicate m x).length)) = List.replicate (n + m) x ++ List.replicate (c - (n + m)) 0 := by
  rw [List.length_replicate, List.take_left' (by simp), List.drop_append, List.drop_of_length_le (by simp), List.nil_append, List.length_replicate, List.drop_replicate, ← List.append_assoc, List.replicate_append_replicate, show n + m - n = m by omega, show c - n - m = c - (n + m) by omega]
theorem slices_Repeat_int_int.head {α : Type} {d : Kd α} {e : Nat} {w : World} {base : Nat} {ok : Nat → Prop} {A : Option Addr} {n c m : Nat} {xs : List α} (h : d.R e w base ok (.slice A n c) xs) (hm : m ≤ xs.length) : 0 < m → ∀ g, (Value.slice A n c).ownBlock = some g → A = some ⟨g, 0, none⟩ := by
  intro h0 g hg
  obtain ⟨g', cap, hv, _, _, cells, _⟩ := Kd.R_form h (by omega)
  injection hv with h1 h2 h3
  subst h1
  obtain rfl : g' = g := by simpa [Value.ownBlock] using hg
  rfl
def slices_Repeat_int_int.f (l0 : List Int) (a1 : Int) : Option (List Int) := if l0.length = 1 ∧ 0 ≤ a1 ∧ a1 ≤ 12 then some (List.replicate a1.toNat (l0.getD 0 0)) else none
set_option maxHeartbeats 8000000 in
set_option maxRecDepth 100000 in
theorem slices_Repeat_int_int.calls (A0 : Option Addr) (c0 : Nat) (l0 : List Int) (a1 : Int) (r : List Int) (w : World) (hr0 : Kd.C (Kd.int .i64) w A0 l0.length l0) (hc0 : l0.length ≤ c0) (h : slices_Repeat_int_int.f l0 a1 = some r) :
    Calls Try.prog 86 #[.slice A0 l0.length c0, .int .i64 a1] w fun e w' => ∃ v0_ : Value, e = .returned (v0_) ∧ Kd.R (Kd.int .i64) 3 w' w.heap.size (fun _ => True) v0_ r ∧ Below w.heap.size w w' := by
  unfold slices_Repeat_int_int.f at h
  by_cases hl : l0.length = 1 ∧ 0 ≤ a1 ∧ a1 ≤ 12
  rotate_left
  · rw [if_neg hl] at h
    cases h
  rw [if_pos hl] at h
  obtain rfl := Option.some.inj h
  clear h
  obtain ⟨h1, h2, h3⟩ := hl
  obtain ⟨x, rfl⟩ : ∃ x, l0 = [x] := by
    match l0, h1 with
    | [x], _ => exact ⟨x, rfl⟩
  obtain ⟨c, rfl⟩ : ∃ c : Nat, a1 = (c : Int) := ⟨a1.toNat, by omega⟩
  have hc12 : c ≤ 12 := by omega
  rw [Int.toNat_natCast]
  have HR0 := Aside0.mk hr0
  have HC0 := Aside0.mk hc0
  clear hr0 hc0 h1
  have hw1 : IntKind.u64.wrap (c : Int) = (c : Int) := by rw [IntKind.wrap_u64]; omega
  have hw2 : wrap64 (c : Int) = (c : Int) := by unfold wrap64; omega
  have d1 : decide ((c : Int) < 0) = false := decide_eq_false (by omega)
  have d2 : decide ((9223372036854775807 : Int) < (c : Int)) = false := decide_eq_false (by omega)
  obtain ⟨m0, hm0⟩ : ∃ m0, m0 = Nat.min 1 c := ⟨_, rfl⟩
  have hm1 : m0 ≤ 1 ∧ m0 ≤ c ∧ (m0 = 0 → c = 0) := by rw [hm0, show Nat.min 1 c = min 1 c from rfl]; omega
  have hys : [x].take m0 = List.replicate m0 x := by
    rcases Nat.lt_or_ge m0 1 with h | h
    · obtain rfl : m0 = 0 := by omega
      rfl
    · obtain rfl : m0 = 1 := by omega
      rfl
  have hl0 : (List.replicate m0 x).length = m0 := List.length_replicate
  have HY : Aside0 (Kd.C (Kd.int .i64) w A0 (List.replicate m0 x).length (List.replicate m0 x)) := ⟨by rw [← hys]; exact Kd.C_take HR0.out hm1.1⟩
  have HM := Aside0.mk hm1
  have HM0 := Aside0.mk hm0
  have HH := Aside0.mk (show 0 ≤ (c : Int) ∧ c ≤ 12 from ⟨h2, hc12⟩)
  clear hm1 hm0 hys hl0
  obtain ⟨i, hi, _, hsz, _⟩ := info_parts info3
  go_enter Try.func86, Try.ntmps86
  go_wp2_with (first | (go_at_call 92; refine (slices_Repeat_int_int.mul (c : Int) h2 h3 _).mono ?_; rintro e w' ⟨rfl, rfl⟩) | ((with_reducible refine gate_dst (N := 30) rfl ?_); refine Kd.R_make (Kd.int .i64) _ 3 rfl (N := 30) rfl 46 _ _ rfl (c : Int) rfl rfl Try.underlying46 (.int .i64 0) 8 info3 rfl (by decide) (by omega) 0 (ok := fun _ => True) (okp := fun _ => True) rfl (fun _ hk => hk) trivial h2 (by rw [Int.toNat_natCast]; omega) (Below.refl _ _) (Nat.le_refl _) ?_; intro v1 w1 ho1 hb1 hg1_ hnew_; clear hg1_ hnew_; rw [Int.toNat_natCast] at ho1; obtain ⟨A1, co1, e1⟩ := Kd.R_slice ho1; rw [List.length_replicate] at e1; subst e1; have HO1 : Aside0 (Kd.R (Kd.int .i64) 3 w1 w.heap.size (fun _ => True) (.slice A1 c co1) (List.replicate 0 x ++ List.replicate (c - 0) 0)) := ⟨by rw [List.replicate_zero, List.nil_append, Nat.sub_zero]; exact ho1⟩; have HB1 := Aside0.mk hb1; clear ho1 hb1) | ((with_reducible refine gate_builtin (b := .copy) (xs := #[.tmp 31, .tmp 32]) rfl ?_); refine slices_Repeat_int_int.copyms (w0 := w) w.heap.size rfl (.tmp 31) (.tmp 32) 46 46 3 .i64 rfl Try.underlying46 (by rw [hi]; simp [hsz]) (.slice A1 c co1) (List.replicate 0 x ++ List.replicate (c - 0) 0) (List.replicate m0 x) 0 ?hfit A1 c co1 1 ?hmd A0 c0 (fun _ => True) rfl rfl ?hA HO1.out ?hC HB1.out HB1.out.size ?_; (case hfit => have := HM.out; simp; omega); (case hmd => rw [List.length_replicate]; exact HM0.out); (case hA => exact slices_Repeat_int_int.head HO1.out (by have := HM.out; simp; omega)); (case hC => exact Kd.C_below HY.out HB1.out); intro w2 ho2 hb2 hg2; rw [slices_Repeat_int_int.row x c 0 m0 (by have := HM.out; omega), Nat.zero_add] at ho2; have HO2 := Aside0.mk ho2; have HB2 := Aside0.mk hb2; clear ho2 hb2 hg2; rw [List.length_replicate]))
  go_loopg [8] 20 (fun kq v8 w' => ∃ n : Nat, v8 = .int .i64 (n : Int) ∧ Aside0 (n ≤ c ∧ c - n < kq ∧ (n = 0 → c = 0)) ∧ Aside0 (Kd.R (Kd.int .i64) 3 w' w.heap.size (fun _ => True) (.slice A1 c co1) (List.replicate n x ++ List.replicate (c - n) 0)) ∧ Aside0 (Below w.heap.size w w'))
  case atStart => exact ⟨m0, rfl, ⟨by have := HM.out; have := HH.out; omega⟩, HO2, HB2⟩
  case round =>
    obtain ⟨n, rfl, HN, HO, HB⟩ := hrel
    cases gk with
    | zero => exact absurd HN.out.2.1 (by omega)
    | succ k1 =>
      by_cases hn : n < c
      · have c6 : decide ((n : Int) < (c : Int)) = true := decide_eq_true (by omega)
        have hn0 : (0 : Int) ≤ (n : Int) := by omega
        have hn1 : (n : Int) ≤ (c : Int) := by omega
        have hco := (Kd.R_reads' HO.out).2.1
        have hn2 : (n : Int) ≤ (co1 : Int) := by omega
        obtain ⟨m, hm⟩ : ∃ m, m = Nat.min n (c - n) := ⟨_, rfl⟩
        have hmm : m ≤ n ∧ n + m ≤ c ∧ 1 ≤ m := by have := HN.out; rw [hm, show Nat.min n (c - n) = min n (c - n) from rfl]; omega
        have hxs : (List.replicate n x ++ List.replicate (c - n) (0 : Int)).length = c := by rw [List.length_append, List.length_replicate, List.length_replicate]; omega
        obtain ⟨Ac, hAc⟩ : ∃ Ac : Option Addr, (if co1 = n then A1 else A1.map (·.add n)) = Ac := ⟨_, rfl⟩
        have HC : Aside0 (Kd.C (Kd.int .i64) wr A1 (List.replicate m x).length (List.replicate m x)) := ⟨by
          have z := Kd.C_take (m := m) (by have y := (Kd.R_reads' HO.out).2.2; exact y) (by rw [hxs]; omega)
          rw [List.take_append_of_le_length (by rw [List.length_replicate]; exact hmm.1), List.take_replicate, Nat.min_eq_left hmm.1] at z
          exact z⟩
        have HF : Aside0 (n + (List.replicate m x).length ≤ (List.replicate n x ++ List.replicate (c - n) (0 : Int)).length) := ⟨by rw [hxs, List.length_replicate]; exact hmm.2.1⟩
        have HD : Aside0 ((List.replicate m x).length = Nat.min n (c - n)) := ⟨by rw [List.length_replicate]; exact hm⟩
        have HA : Aside0 (0 < (List.replicate m x).length → ∀ g, (Value.slice A1 c co1).ownBlock = some g → Ac = some ⟨g, n, none⟩) := ⟨by rw [← hAc]; exact slices_Repeat_int_int.addr HO.out HF.out⟩
        have HMM := Aside0.mk hmm
        have hww : wrap64 ((n : Int) + ((List.replicate m x).length : Int)) = ((n + m : Nat) : Int) := by rw [List.length_replicate]; unfold wrap64; omega
        clear hmm hxs hco hm
        go_wp2_with fail
        go_region_law (refine slices_Repeat_int_int.stepms (w0 := w) w.heap.size rfl (.tmp 41) (.tmp 44) 46 46 3 .i64 rfl Try.underlying46 (by rw [hi]; simp [hsz]) (.slice A1 c co1) (List.replicate n x ++ List.replicate (c - n) 0) (List.replicate m x) n HF.out Ac (c - n) (co1 - n) n HD.out A1 co1 (fun _ => True) (by simp [Act.eval, Act.put]) (by simp [Act.eval, Act.put]) HA.out (Kd.R_drew HO.out) (Kd.C_drew HC.out) (below_drew1 HB.out) (below_drew1 HB.out).size ?_; intro w2 ho2 hb2 hg2; rw [slices_Repeat_int_int.row x c n m HMM.out.2.1] at ho2; have HO3 := Aside0.mk ho2; have HB3 := Aside0.mk hb2; clear ho2 hb2 hg2)
        go_wp2
        go_roundg k1
        case measure => have := HN.out; have := HMM.out; omega
        case rel => exact ⟨n + m, (by simp; rw [IntKind.wrap_i64]; have := HMM.out; have := HH.out; omega), ⟨by have := HN.out; have := HMM.out; omega⟩, HO3, HB3⟩
      · have c6 : decide ((n : Int) < (c : Int)) = false := decide_eq_false (by omega)
        have hnc : n = c := by have := HN.out; omega
        subst hnc
        go_wp2
        go_ret
        exact ⟨_, rfl, by have h := HO.out; rw [Nat.sub_self, List.replicate_zero, List.append_nil] at h; exact h, HB.out⟩

end Go.Proofs.Ytamelcmioliapaa.QFnExactPoolNew
