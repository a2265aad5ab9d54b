/- What the functions that the law FnExactPutAt reaches compute, as plain functions, and that the code computes just that (by a program of this session's; the library's functions by hand). No condition. -/
import Derived.Test.YtamelcmioliapaaQFnExactPutAtx0
import Derived.Test.YtamelcmioliapaaQFnExactPutAtx1
namespace Go.Proofs.Ytamelcmioliapaa.QFnExactPutAt
open Go.RowKit Go.Proofs.YtamelcmioliapaaW.PrintWords Go.Proofs.YtamelcmioliapaaW.PrintLast Go.Proofs.YtamelcmioliapaaW.PrintMore
attribute [local go_sem] max2_int min2_int max_two min_two max_three min_three max_four min_four   -- for this text's walks alone
set_option linter.unusedVariables false
set_option linter.unusedSimpArgs false

/-! ### impl_PutAt: function 22 (by hand) -/
/-- 'xs[i:j]' by its address. -/
theorem impl_PutAt.cut {P : Program} (t e : TypeId) {i : TypeInfo} (ht : P.underlying t = some (.slice e)) (hi : P.info? e = some i) (hsz : i.size = 1) (A : Option Addr) (n c : Nat) (a b : Int) (h0 : 0 ≤ a) (h1 : a ≤ b) (hm : b ≤ n) (hc : n ≤ c) :
    ∀ W : World, (Instr.slice t (.slice A n c) (some (.int .i64 a)) (some (.int .i64 b)) none).run P W = .ok (.slice (if c = a.toNat then A else A.map (·.add a.toNat)) (b.toNat - a.toNat) (c - a.toNat)) W := by
  intro W
  have hel : P.elem t = e := by simp [Program.elem, ht]
  have hu : P.underlying t = some (.slice (P.elem t)) := by rw [hel]; exact ht
  rw [run_slice_lh W t A n c hu .i64 .i64 a b h0 h1 (by omega), hel]
  simp [sizeOf, typeInfo, hi, hsz, sliced, Result.andThen]
/-- A part of a row of scalars of one's own is written anew: what the row holds then. -/
theorem impl_PutAt.laid {α : Type} {enc : α → Value} {h1 : ∀ x, (enc x).oneCell' = true} {e : TypeId} {base : Nat} {ok : Nat → Prop} {W : World} {v : Value} {xs ys : List α} {g : Nat} (HO : (Kd.scalar enc h1).R e W base ok v xs) (hg : v.ownBlock = some g) (i : Nat) (hfit : i + ys.length ≤ xs.length) :
    (Kd.scalar enc h1).R e (W.setCells g i (encs enc ys)) base ok v (xs.take i ++ (ys ++ xs.drop (i + ys.length))) ∧ W.grownBy (W.setCells g i (encs enc ys)) v.ownBlock ∧ (∀ j, j < ys.length → (W.cell? ⟨g, i + j, none⟩).isSome = true) ∧ (∀ j, j < ys.length → W.frozen? ⟨g, i + j, none⟩ = false) := by
  have hown := Kd.own_of_R HO
  rcases hown.2 with ⟨rfl, hx0⟩ | ⟨g', cap, cur, hv, hb, hh, hnc, hcm, hcs, htake⟩
  · simp [Value.ownBlock] at hg
  obtain rfl : g' = g := by rw [hv] at hg; simpa [Value.ownBlock] using hg
  have hcl : cur.toList.length = cur.size := Array.length_toList
  obtain ⟨cur', h3, h4, h5⟩ := setCells_row (encs enc ys) i W cur hh (by rw [encs_length]; omega)
  obtain ⟨s1, s2, s3, s4⟩ := setCells_same g' (encs enc ys) i W
  have hln : (xs.take i ++ (ys ++ xs.drop (i + ys.length))).length = xs.length := by
    rw [List.length_append, List.length_append, List.length_take, List.length_drop]
    omega
  refine ⟨Kd.R_of_own ?_ HO.1, ⟨s1, s2, s3, by rw [s4]; exact Nat.le_refl _, fun k _ hk => setCells_far _ _ k (fun he => hk (by rw [hv, he]; simp [Value.ownBlock]))⟩, fun j hj => by rw [cell_of_row W g' _ cur e (0, 0) hh]; simp; omega, fun j _ => blk_frozen hh _⟩
  rw [hln]
  refine ⟨by rw [encs_length, hln, Nat.mul_one], .inr ⟨g', cap, cur', hv, hb, h3, hnc, hcm, by rw [h4, hcs], ?_⟩⟩
  rw [h5, Nat.mul_one, encs_append, encs_append]
  have htk : cur.toList.take xs.length = encs enc xs := by rw [← htake, Nat.mul_one]
  have ht1 : encs enc (xs.take i) = (encs enc xs).take i := by simp [encs, List.map_take]
  have hd1 : encs enc (xs.drop (i + ys.length)) = (encs enc xs).drop (i + ys.length) := by simp [encs, List.map_drop]
  rw [ht1, hd1, ← htk, encs_length, List.take_take, Nat.min_eq_left (by omega), List.append_assoc, List.take_append, List.length_take, List.take_of_length_le (by rw [List.length_take]; omega), List.take_append, List.take_of_length_le (l := encs enc ys) (by rw [encs_length]; omega), encs_length, List.drop_take]
  congr 3
  omega
/-- clear(xs[i:i+m]), xs a row of numbers of one's own. -/
theorem impl_PutAt.clear {P : Program} {ops : Array Oper} {rest : List Oper} {o : Oper} {a : Act} {Q : Exit → Act → World → Prop} {w0 W : World} (base : Nat) (hgd : o.guard = none) (s : Operand) (t e : TypeId) (k : IntKind)
    (ho : o.op = .call { callee := .builtin .clear, args := #[s], argTypes := #[t] }) (ht : P.underlying t = some (.slice e)) (hz : ∀ w, (zeroValue e).run P w = .ok (.int k 0) w)
    (v : Value) (xs : List Int) (i m : Nat) (him : i + m ≤ xs.length) (A : Option Addr) (c : Nat) (ok : Nat → Prop) (hs : a.eval s = .slice A m c) (hA : 0 < m → ∀ g, v.ownBlock = some g → A = some ⟨g, i, none⟩)
    (HO : (Kd.int k).R e W base ok v xs) (HB : Below base w0 W) (hbase : base ≤ W.heap.size)
    (h : ∀ w1, (Kd.int k).R e w1 base ok v (xs.take i ++ (List.replicate m 0 ++ xs.drop (i + m))) → Below base w0 w1 → W.grownBy w1 v.ownBlock → wpList P ops Q rest (a.put o.dst (.tuple #[])) w1) :
    wpList P ops Q (o :: rest) a W := by
  have hown := Kd.own_of_R HO
  have fin : ∀ w1, (Builtin.clear_ #[t] o.type #[.slice A m c]).run P W = .ok (.tuple #[]) w1 → (Kd.int k).R e w1 base ok v (xs.take i ++ (List.replicate m 0 ++ xs.drop (i + m))) → W.grownBy w1 v.ownBlock → wpList P ops Q (o :: rest) a W := by
    intro w1 hr hrow hg
    refine wpList_plain hgd fun K hK => ?_
    unfold Oper.wp execOp
    simp only [ho, resolve, invoke, builtin, Sem.run_bind, Sem.run_pure, Result.andThen_ok, List.map_toArray, List.map_cons, List.map_nil, hs, hr]
    exact hK _ _ (h w1 hrow (HB.grown hg hbase (own_base hown)) hg)
  by_cases hm : m = 0
  · subst hm
    refine fin W (by cases A <;> simp [Builtin.clear_, run_underlying ht]) ?_ (World.grownBy.refl W _)
    have e1 : xs.take i ++ (List.replicate 0 0 ++ xs.drop (i + 0)) = xs := by simp
    rw [e1]; exact HO
  · rcases hown.2 with ⟨_, hx0⟩ | ⟨g, cap, cur, hv, _⟩
    · omega
    have hg : v.ownBlock = some g := by rw [hv]; simp [Value.ownBlock]
    obtain rfl := hA (by omega) g hg
    obtain ⟨h1, h2, h3, h4⟩ := impl_PutAt.laid (ys := List.replicate m (0 : Int)) HO hg i (by simpa using him)
    rw [List.length_replicate] at h1 h3 h4
    have hen : encs (Value.int k) (List.replicate m (0 : Int)) = List.replicate m (.int k 0) := by simp [encs]
    rw [hen] at h1 h2
    exact fin _ (Lib.run_clear_slice W t e o.type (.int k 0) ht hz rfl rfl g i m c (by omega) h3 h4) h1 h2
/-- Where a cut of a row of one's own begins. -/
theorem impl_PutAt.addr {α : Type} {d : Kd α} {e : Nat} {w : World} {base : Nat} {ok : Nat → Prop} {A : Option Addr} {n c : Nat} {xs : List α} (h : d.R e w base ok (.slice A n c) xs) {i m : Nat} (hfit : i + m ≤ xs.length) :
    0 < m → ∀ g, (Value.slice A n c).ownBlock = some g → (if c = i then A else A.map (·.add i)) = some ⟨g, i, none⟩ := by
  intro hm g hg
  obtain ⟨g', cap, hv, _, _, cells, _⟩ := Kd.R_form h (by omega)
  obtain ⟨hn, hc, _⟩ := Kd.R_reads' h
  injection hv with h1 h2 h3
  subst h1
  obtain rfl : g' = g := by simpa [Value.ownBlock] using hg
  rw [if_neg (by omega), Option.map_some, add_plain]
/-- The operation 'xs[i:j]'. -/
theorem impl_PutAt.cutop {P : Program} {o : Oper} {f : Operand → Value} {W : World} {t e : TypeId} {i : TypeInfo} {x lo hi_ : Operand} {A : Option Addr} {n c : Nat} {p q : Int} (ho : o.op = .slice t x (some lo) (some hi_) none) (ht : P.underlying t = some (.slice e)) (hi : P.info? e = some i) (hsz : i.size = 1)
    (hx : f x = .slice A n c) (hlo : f lo = .int .i64 p) (hhi : f hi_ = .int .i64 q) (h0 : 0 ≤ p) (h1 : p ≤ q) (hm : q ≤ n) (hc : n ≤ c) :
    (execOp f o).run P W = .ok (.value (.slice (if c = p.toNat then A else A.map (·.add p.toNat)) (q.toNat - p.toNat) (c - p.toNat))) W := by
  have h := impl_PutAt.cut (P := P) t e ht hi hsz A n c p q h0 h1 hm hc W
  unfold execOp
  simp only [ho, Option.map_some, Option.map_none, hx, hlo, hhi, Sem.run_bind, Instr.sliceAt, run_underlying ht, Result.andThen_ok, h, Sem.run_pure]
/-- The operation 'xs[i:]'. -/
theorem impl_PutAt.tailop {P : Program} {o : Oper} {f : Operand → Value} {W : World} {t e : TypeId} {i : TypeInfo} {x lo : Operand} {A : Option Addr} {n c : Nat} {p : Int} (ho : o.op = .slice t x (some lo) none none) (ht : P.underlying t = some (.slice e)) (hi : P.info? e = some i) (hsz : i.size = 1)
    (hx : f x = .slice A n c) (hlo : f lo = .int .i64 p) (h0 : 0 ≤ p) (h1 : p ≤ n) :
    (execOp f o).run P W = .ok (.value (.slice (if c = p.toNat then A else A.map (·.add p.toNat)) (n - p.toNat) (c - p.toNat))) W := by
  have hel : P.elem t = e := by simp [Program.elem, ht]
  have hu : P.underlying t = some (.slice (P.elem t)) := by rw [hel]; exact ht
  have h := run_slice_l W t A n c hu .i64 p h0 h1
  rw [hel] at h
  unfold execOp
  simp only [ho, Option.map_some, Option.map_none, hx, hlo, Sem.run_bind, Instr.sliceAt, run_underlying ht, Result.andThen_ok, h, Sem.run_pure]
  simp [sizeOf, typeInfo, hi, hsz, sliced, Result.andThen]
/-- copy(xs[i:], ys), xs a row of numbers of one's own that holds so many, ys a row that is read. -/
theorem impl_PutAt.copyat {P : Program} {ops : Array Oper} {rest : List Oper} {o : Oper} {a : Act} {Q : Exit → Act → World → Prop} {w0 W : World} (base : Nat) (hgd : o.guard = none) (s x : Operand) (t t' e : TypeId) (k : IntKind)
    (ho : o.op = .call { callee := .builtin .copy, args := #[s, x], argTypes := #[t, t'] }) (ht : P.underlying t = some (.slice e)) (hinfo : (P.info? e).map (·.size) = some 1)
    (v : Value) (xs ys : List Int) (i : Nat) (him : i + ys.length ≤ xs.length) (A : Option Addr) (md c : Nat) (hmd : ys.length ≤ md) (A2 : Option Addr) (c2 : Nat) (ok : Nat → Prop) (hs : a.eval s = .slice A md c) (hx : a.eval x = .slice A2 ys.length c2) (hA : 0 < ys.length → ∀ g, v.ownBlock = some g → A = some ⟨g, i, none⟩)
    (HO : (Kd.int k).R e W base ok v xs) (HR : (Kd.int k).C W A2 ys.length ys) (HB : Below base w0 W) (hbase : base ≤ W.heap.size)
    (h : ∀ w1, (Kd.int k).R e w1 base ok v (xs.take i ++ (ys ++ xs.drop (i + ys.length))) → Below base w0 w1 → W.grownBy w1 v.ownBlock → wpList P ops Q rest (a.put o.dst (.int .i64 (ys.length : Int))) w1) :
    wpList P ops Q (o :: rest) a W := by
  have hown := Kd.own_of_R HO
  have fin : ∀ w1, (Builtin.copy_ #[t, t'] o.type #[.slice A md c, .slice A2 ys.length c2]).run P W = .ok (goInt ys.length) w1 → (Kd.int k).R e w1 base ok v (xs.take i ++ (ys ++ xs.drop (i + ys.length))) → W.grownBy w1 v.ownBlock → wpList P ops Q (o :: rest) a W := by
    intro w1 hr hrow hg
    refine wpList_plain hgd fun K hK => ?_
    unfold Oper.wp execOp
    simp only [ho, resolve, invoke, builtin, Sem.run_bind, Sem.run_pure, Result.andThen_ok, List.map_toArray, List.map_cons, List.map_nil, hs, hx, hr]
    exact hK _ _ (h w1 hrow (HB.grown hg hbase (own_base hown)) hg)
  by_cases hm : ys.length = 0
  · have hr := run_copy_none (P := P) W t t' o.type e A A2 md c ys.length c2 ht hinfo (by rw [hm]; exact Nat.zero_min _)
    obtain rfl := List.eq_nil_of_length_eq_zero hm
    exact fin W hr (by simpa using HO) (World.grownBy.refl W _)
  · rcases hown.2 with ⟨_, hx0⟩ | ⟨g, cap, cur, hv, _⟩
    · omega
    have hg : v.ownBlock = some g := by rw [hv]; simp [Value.ownBlock]
    obtain rfl := hA (by omega) g hg
    obtain ⟨h1, h2, h3, h4⟩ := impl_PutAt.laid (ys := ys) HO hg i him
    have hR := Kd.reads_of_C (enc := Value.int k) (d := (0 : Int)) (h1 := fun _ => rfl) HR
    obtain ⟨ad, rfl, hc⟩ := hR.2.2 (by omega)
    have hkl : (encs (Value.int k) ys).length = ys.length := encs_length _
    have hr := run_copy_cells (P := P) W t t' o.type e g i md c ad ys.length c2 (encs (Value.int k) ys) ht hinfo (by rw [hkl]; exact (Nat.min_eq_left hmd).symm)
      (fun j u hu => by
        have hj : j < ys.length := by
          rcases Nat.lt_or_ge j ys.length with h | h
          · exact h
          · rw [List.getElem?_eq_none (by rw [encs_length]; exact h)] at hu
            cases hu
        rw [encs_get (d := (0 : Int)) _ j hj] at hu
        rw [hc j hj, ← hu])
      (fun j hj => h3 j (by rw [hkl] at hj; exact hj)) (fun j hj => h4 j (by rw [hkl] at hj; exact hj)) (by intro u hu; simp only [encs, List.mem_map] at hu; obtain ⟨q, _, rfl⟩ := hu; rfl)
    rw [hkl] at hr
    exact fin _ hr h1 h2
def impl_PutAt.f (l0 : List Int) (a1 : Int) (l2 : List Int) : Option (List Int × Bool) := if l0.length < 140737488355328 then (if 0 ≤ a1 ∧ a1 + (l2.length : Int) ≤ (l0.length : Int) then some (l0.take a1.toNat ++ (l2 ++ l0.drop (a1.toNat + l2.length)), true) else some (l0, false)) else none
set_option maxHeartbeats 8000000 in
set_option maxRecDepth 100000 in
theorem impl_PutAt.calls (A0 : Option Addr) (c0 : Nat) (l0 : List Int) (a1 : Int) (A2 : Option Addr) (c2 : Nat) (l2 : List Int) (r1 : List Int) (r2 : Bool) (w : World) (hr0 : Kd.C (Kd.int .u8) w A0 l0.length l0) (hc0 : l0.length ≤ c0) (hr2 : Kd.C (Kd.int .u8) w A2 l2.length l2) (hc2 : l2.length ≤ c2) (h : impl_PutAt.f l0 a1 l2 = some (r1, r2)) :
    Calls Try.prog 22 #[.slice A0 l0.length c0, .int .i64 a1, .slice A2 l2.length c2] w fun e w' => ∃ v0_ : Value, e = .returned (.tuple #[v0_, .bool r2]) ∧ Kd.R (Kd.int .u8) 5 w' w.heap.size (fun _ => True) v0_ r1 ∧ Below w.heap.size w w' := by
  unfold impl_PutAt.f at h
  by_cases hl : l0.length < 140737488355328
  rotate_left
  · rw [if_neg hl] at h
    cases h
  rw [if_pos hl] at h
  have A9 := Aside0.mk (show slices_Clone_byte_byte.f l0 = some l0 by unfold slices_Clone_byte_byte.f; rw [if_pos hl])
  have hmax2 : l2.length ≤ 9223372036854775807 := Kd.C_max hr2
  have AH : impl_has.f (l0.length : Int) a1 (l2.length : Int) = some (decide (0 ≤ a1 ∧ a1 + (l2.length : Int) ≤ (l0.length : Int))) := by
    unfold impl_has.f impl_within.f
    rw [if_pos (by omega)]
    by_cases c1 : (l2.length : Int) ≤ (l0.length : Int)
    · have e : wrap64 ((l0.length : Int) - (l2.length : Int)) = (l0.length : Int) - (l2.length : Int) := by unfold wrap64; omega
      rw [if_pos c1, e]
      by_cases c3 : a1 ≥ 0
      · rw [if_pos c3, Option.bind_some]
        congr 1
        rw [decide_eq_decide]
        omega
      · rw [if_neg c3, Option.bind_some, decide_eq_false (by omega)]
    · rw [if_neg c1, decide_eq_false (by omega)]
  have HR0 := Aside0.mk hr0
  have HC0 := Aside0.mk hc0
  have HR2 := Aside0.mk hr2
  clear hr0 hc0 hr2
  by_cases c : 0 ≤ a1 ∧ a1 + (l2.length : Int) ≤ (l0.length : Int)
  · rw [if_pos c] at h
    rw [decide_eq_true c] at AH
    have A8 := Aside0.mk AH
    simp only [Option.some.injEq, Prod.mk.injEq] at h
    obtain ⟨rfl, rfl⟩ := h
    have hfit : a1.toNat + l2.length ≤ l0.length := by omega
    have hmd : l2.length ≤ l0.length - a1.toNat := by omega
    have b1 : 0 ≤ a1 := c.1
    have b2 : a1 ≤ (l0.length : Int) := by omega
    have HB1_ := Aside0.mk b1
    have HB2_ := Aside0.mk b2
    have HF := Aside0.mk hfit
    have HMD := Aside0.mk hmd
    obtain ⟨i, hi, _, hsz, _⟩ := info_parts info5
    clear AH c hfit hmd b1 b2 hl hmax2
    go_enter Try.func22, Try.ntmps22
    go_wp2_with (first | (go_at_call 58; (with_reducible refine (slices_Clone_byte_byte.calls _ _ l0 l0 _ ?side1 ?side2 A9.out).mono ?_); (case side1 => exact HR0.out); (case side2 => exact HC0.out); rintro e w11 ⟨v125, rfl, ho0, hb⟩; obtain ⟨A1, co1, e1⟩ := Kd.R_slice ho0; subst e1; have HO1 := Aside0.mk ho0; have HB1 := Aside0.mk hb; clear ho0 hb; obtain ⟨Ac, hAc⟩ : ∃ Ac : Option Addr, (if co1 = a1.toNat then A1 else A1.map (·.add a1.toNat)) = Ac := ⟨_, rfl⟩; have HAc := Aside0.mk hAc; clear hAc) | (go_at_call 60; (with_reducible refine (impl_has.calls _ _ _ true _ A8.out).mono ?_); rintro e w12 ⟨rfl, ⟨nd, rfl⟩⟩) | ((with_reducible refine gate_dst (N := 21) rfl ?_); (refine Kd.event_run rfl (impl_PutAt.tailop (P := Try.prog) (A := A1) (n := l0.length) (c := co1) (p := a1) rfl Try.underlying24 hi hsz rfl rfl HB1_.out HB2_.out) ?_; rw [HAc.out])) | ((with_reducible refine gate_builtin (b := .copy) (xs := #[.tmp 21, .tmp 22]) rfl ?_); refine impl_PutAt.copyat (w0 := w) w.heap.size rfl (.tmp 21) (.tmp 22) 24 24 5 .u8 rfl Try.underlying24 (by rw [hi]; simp [hsz]) (.slice A1 l0.length co1) l0 l2 a1.toNat HF.out Ac (l0.length - a1.toNat) (co1 - a1.toNat) HMD.out A2 c2 (fun _ => True) rfl rfl ?hA (Kd.R_drewN HO1.out _) ?hC (pw_below_drewN HB1.out _) (pw_below_drewN HB1.out _).size ?_; (case hA => rw [← HAc.out]; exact impl_PutAt.addr HO1.out HF.out); (case hC => exact Kd.C_below HR2.out (pw_below_drewN HB1.out _)); intro w2 ho2 hb2 hg2; have HO2 := Aside0.mk ho2; have HB2 := Aside0.mk hb2; clear ho2 hb2 hg2))
    go_ret2
    exact ⟨_, rfl, HO2.out, HB2.out⟩
  · rw [if_neg c] at h
    rw [decide_eq_false c] at AH
    have A8 := Aside0.mk AH
    simp only [Option.some.injEq, Prod.mk.injEq] at h
    obtain ⟨rfl, rfl⟩ := h
    clear AH c hl hmax2
    go_enter Try.func22, Try.ntmps22
    go_wp2_with (first | (go_at_call 58; (with_reducible refine (slices_Clone_byte_byte.calls _ _ l0 l0 _ ?side1 ?side2 A9.out).mono ?_); (case side1 => exact HR0.out); (case side2 => exact HC0.out); rintro e w11 ⟨v125, rfl, ho0, hb⟩; have HO1 := Aside0.mk ho0; have HB1 := Aside0.mk hb; clear ho0 hb) | (go_at_call 60; (with_reducible refine (impl_has.calls _ _ _ false _ A8.out).mono ?_); rintro e w12 ⟨rfl, ⟨nd, rfl⟩⟩))
    go_ret2
    exact ⟨_, rfl, Kd.R_drewN HO1.out _, pw_below_drewN HB1.out _⟩

/-! ### laws_FnExactPutAt: function 5 -/
mutual
def laws_FnExactPutAt.j0 : Nat → List Int → Int → List Int → List Int → Bool → List Int → List Int → List Int → Bool → Bool → Option (Bool)
  | 0, _, _, _, _, _, _, _, _, _, _ => none
  | k + 1, x0, x1, x2, x7, x8, x9, x10, x11, x12, x52 => if x52 = true then (none) else ((laws_toByteS.f k x0).bind fun t141 => ((laws_eqByteS.f k x9 t141).bind fun t144 => (if t144 = true then ((laws_toByteS.f k x2).bind fun t145 => ((laws_eqByteS.f k x10 t145).bind fun t148 => (if t148 = true then ((laws_markByteS.f k x9 1).bind fun bt149 => ((laws_markByteS.f k x10 bt149.1).bind fun bt151 => (if bt151.1 < 0 then (none) else ((laws_eqByteS.f k x11 x7).bind fun t153 => (if t153 = true then (laws_FnExactPutAt.j1 k x0 x1 x2 x7 x8 x11 (x12 != x8)) else (none)))))) else (none)))) else (none))))
def laws_FnExactPutAt.j1 : Nat → List Int → Int → List Int → List Int → Bool → List Int → Bool → Option (Bool)
  | 0, _, _, _, _, _, _, _ => none
  | k + 1, x0, x1, x2, x7, x8, x11, x81 => if x81 = true then (none) else ((laws_markByteS.f k x11 1).bind fun bt154 => ((laws_heldByteS.f k bt154.2 1).bind fun t156 => (if t156 < 0 then (none) else (if t156 = bt154.1 then ((laws_toByteS.f k x0).bind fun t157 => ((laws_toByteS.f k x2).bind fun t160 => ((impl_PutAt.f t157 x1 t160).bind fun bt163 => ((laws_eqByteS.f k bt163.1 x7).bind fun t167 => (if t167 = true then (laws_FnExactPutAt.j2 k bt154.2 bt154.1 (bt163.2 != x8)) else (none)))))) else (none)))))
def laws_FnExactPutAt.j2 : Nat → List Int → Int → Bool → Option (Bool)
  | 0, _, _, _ => none
  | k + 1, x11, x14, x110 => if x110 = true then (none) else ((laws_heldByteS.f k x11 1).bind fun t168 => (if t168 < 0 then (none) else (if t168 = x14 then (some true) else (none))))
end
def laws_FnExactPutAt.f (k : Nat) (l0 : List Int) (a1 : Int) (l2 : List Int) : Option (Bool) := if (l0.length : Int) > 1048576 then (some true) else (if (l2.length : Int) > 1048576 then (some true) else ((laws_toByteS.f k l0).bind fun t120 => ((laws_toByteS.f k l2).bind fun t123 => ((spec_PutAt.f k t120 a1 t123).bind fun bt126 => ((laws_toByteS.f k l0).bind fun t130 => ((laws_toByteS.f k l2).bind fun t133 => ((impl_PutAt.f t130 a1 t133).bind fun bt136 => ((laws_eqByteS.f k bt136.1 bt126.1).bind fun t140 => (if t140 = true then (laws_FnExactPutAt.j0 k l0 a1 l2 bt126.1 bt126.2 t130 t133 bt136.1 bt136.2 (bt136.2 != bt126.2)) else (none))))))))))
theorem laws_FnExactPutAt.mono_l : ∀ k, (∀ y0 y1 y2 y3 y4 y5 y6 y7 y8 y9, LeO (laws_FnExactPutAt.j0 k y0 y1 y2 y3 y4 y5 y6 y7 y8 y9) (laws_FnExactPutAt.j0 (k + 1) y0 y1 y2 y3 y4 y5 y6 y7 y8 y9)) ∧ (∀ y0 y1 y2 y3 y4 y5 y6, LeO (laws_FnExactPutAt.j1 k y0 y1 y2 y3 y4 y5 y6) (laws_FnExactPutAt.j1 (k + 1) y0 y1 y2 y3 y4 y5 y6)) ∧ (∀ y0 y1 y2, LeO (laws_FnExactPutAt.j2 k y0 y1 y2) (laws_FnExactPutAt.j2 (k + 1) y0 y1 y2))
  | 0 => ⟨fun _ _ _ _ _ _ _ _ _ _ r h => by simp [laws_FnExactPutAt.j0] at h, fun _ _ _ _ _ _ _ r h => by simp [laws_FnExactPutAt.j1] at h, fun _ _ _ r h => by simp [laws_FnExactPutAt.j2] at h⟩
  | k + 1 => by
    obtain ⟨ih0, ih1, ih2⟩ := laws_FnExactPutAt.mono_l k
    refine ⟨?_, ?_, ?_⟩
    · intro y0 y1 y2 y3 y4 y5 y6 y7 y8 y9
      unfold laws_FnExactPutAt.j0
      repeat' first
      | (with_reducible exact ih0 _ _ _ _ _ _ _ _ _ _)
      | (with_reducible exact ih1 _ _ _ _ _ _ _)
      | (with_reducible exact ih2 _ _ _)
      | (with_reducible exact laws_eqByteS.mono _ _ _)
      | (with_reducible exact laws_heldByteS.mono _ _ _)
      | (with_reducible exact laws_markByteS.mono _ _ _)
      | (with_reducible exact laws_toByteS.mono _ _)
      | (with_reducible exact spec_PutAt.mono _ _ _ _)
      | (with_reducible exact LeO.refl _)
      | (with_reducible exact LeO.none _)
      | (with_reducible refine LeO.ite ?_ ?_)
      | (with_reducible refine LeO.bind ?_ (fun _ => ?_))
      | exact ih0 _ _ _ _ _ _ _ _ _ _
      | exact ih1 _ _ _ _ _ _ _
      | exact ih2 _ _ _
      | exact laws_eqByteS.mono _ _ _
      | exact laws_heldByteS.mono _ _ _
      | exact laws_markByteS.mono _ _ _
      | exact laws_toByteS.mono _ _
      | exact spec_PutAt.mono _ _ _ _
      | exact LeO.none _
      | refine LeO.ite ?_ ?_
      | refine LeO.bind ?_ (fun _ => ?_)
    · intro y0 y1 y2 y3 y4 y5 y6
      unfold laws_FnExactPutAt.j1
      repeat' first
      | (with_reducible exact ih0 _ _ _ _ _ _ _ _ _ _)
      | (with_reducible exact ih1 _ _ _ _ _ _ _)
      | (with_reducible exact ih2 _ _ _)
      | (with_reducible exact laws_eqByteS.mono _ _ _)
      | (with_reducible exact laws_heldByteS.mono _ _ _)
      | (with_reducible exact laws_markByteS.mono _ _ _)
      | (with_reducible exact laws_toByteS.mono _ _)
      | (with_reducible exact spec_PutAt.mono _ _ _ _)
      | (with_reducible exact LeO.refl _)
      | (with_reducible exact LeO.none _)
      | (with_reducible refine LeO.ite ?_ ?_)
      | (with_reducible refine LeO.bind ?_ (fun _ => ?_))
      | exact ih0 _ _ _ _ _ _ _ _ _ _
      | exact ih1 _ _ _ _ _ _ _
      | exact ih2 _ _ _
      | exact laws_eqByteS.mono _ _ _
      | exact laws_heldByteS.mono _ _ _
      | exact laws_markByteS.mono _ _ _
      | exact laws_toByteS.mono _ _
      | exact spec_PutAt.mono _ _ _ _
      | exact LeO.none _
      | refine LeO.ite ?_ ?_
      | refine LeO.bind ?_ (fun _ => ?_)
    · intro y0 y1 y2
      unfold laws_FnExactPutAt.j2
      repeat' first
      | (with_reducible exact ih0 _ _ _ _ _ _ _ _ _ _)
      | (with_reducible exact ih1 _ _ _ _ _ _ _)
      | (with_reducible exact ih2 _ _ _)
      | (with_reducible exact laws_eqByteS.mono _ _ _)
      | (with_reducible exact laws_heldByteS.mono _ _ _)
      | (with_reducible exact laws_markByteS.mono _ _ _)
      | (with_reducible exact laws_toByteS.mono _ _)
      | (with_reducible exact spec_PutAt.mono _ _ _ _)
      | (with_reducible exact LeO.refl _)
      | (with_reducible exact LeO.none _)
      | (with_reducible refine LeO.ite ?_ ?_)
      | (with_reducible refine LeO.bind ?_ (fun _ => ?_))
      | exact ih0 _ _ _ _ _ _ _ _ _ _
      | exact ih1 _ _ _ _ _ _ _
      | exact ih2 _ _ _
      | exact laws_eqByteS.mono _ _ _
      | exact laws_heldByteS.mono _ _ _
      | exact laws_markByteS.mono _ _ _
      | exact laws_toByteS.mono _ _
      | exact spec_PutAt.mono _ _ _ _
      | exact LeO.none _
      | refine LeO.ite ?_ ?_
      | refine LeO.bind ?_ (fun _ => ?_)
theorem laws_FnExactPutAt.mono : ∀ a0 a1 a2 k, LeO (laws_FnExactPutAt.f k a0 a1 a2) (laws_FnExactPutAt.f (k + 1) a0 a1 a2) := by
  intro a0 a1 a2 k
  obtain ⟨ih0, ih1, ih2⟩ := laws_FnExactPutAt.mono_l k
  unfold laws_FnExactPutAt.f
  repeat' first
      | (with_reducible exact ih0 _ _ _ _ _ _ _ _ _ _)
      | (with_reducible exact ih1 _ _ _ _ _ _ _)
      | (with_reducible exact ih2 _ _ _)
      | (with_reducible exact laws_eqByteS.mono _ _ _)
      | (with_reducible exact laws_heldByteS.mono _ _ _)
      | (with_reducible exact laws_markByteS.mono _ _ _)
      | (with_reducible exact laws_toByteS.mono _ _)
      | (with_reducible exact spec_PutAt.mono _ _ _ _)
      | (with_reducible exact LeO.refl _)
      | (with_reducible exact LeO.none _)
      | (with_reducible refine LeO.ite ?_ ?_)
      | (with_reducible refine LeO.bind ?_ (fun _ => ?_))
      | exact ih0 _ _ _ _ _ _ _ _ _ _
      | exact ih1 _ _ _ _ _ _ _
      | exact ih2 _ _ _
      | exact laws_eqByteS.mono _ _ _
      | exact laws_heldByteS.mono _ _ _
      | exact laws_markByteS.mono _ _ _
      | exact laws_toByteS.mono _ _
      | exact spec_PutAt.mono _ _ _ _
      | exact LeO.none _
      | refine LeO.ite ?_ ?_
      | refine LeO.bind ?_ (fun _ => ?_)
set_option maxHeartbeats 8000000 in
set_option maxRecDepth 100000 in
theorem laws_FnExactPutAt.calls (k : Nat) (A0 : Option Addr) (c0 : Nat) (l0 : List Int) (a1 : Int) (A2 : Option Addr) (c2 : Nat) (l2 : List Int) (r : Bool) (w : World) (hr0 : Kd.C (Kd.int .u8) w A0 l0.length l0) (hc0 : l0.length ≤ c0) (hr2 : Kd.C (Kd.int .u8) w A2 l2.length l2) (hc2 : l2.length ≤ c2) (h : laws_FnExactPutAt.f k l0 a1 l2 = some r) :
    Calls Try.prog 5 #[.slice A0 l0.length c0, .int .i64 a1, .slice A2 l2.length c2] w fun e w' => e = .returned (.bool r) ∧ Below w.heap.size w w' := by
  have HR0 := Aside0.mk hr0
  have HC0 := Aside0.mk hc0
  clear hr0 hc0
  have HR2 := Aside0.mk hr2
  have HC2 := Aside0.mk hc2
  clear hr2 hc2
  have HB := Aside0.mk (Below.refl w.heap.size w)
  have H : (if (l0.length : Int) > 1048576 then (some true) else (if (l2.length : Int) > 1048576 then (some true) else ((laws_toByteS.f k l0).bind fun t120 => ((laws_toByteS.f k l2).bind fun t123 => ((spec_PutAt.f k t120 a1 t123).bind fun bt126 => ((laws_toByteS.f k l0).bind fun t130 => ((laws_toByteS.f k l2).bind fun t133 => ((impl_PutAt.f t130 a1 t133).bind fun bt136 => ((laws_eqByteS.f k bt136.1 bt126.1).bind fun t140 => (if t140 = true then (laws_FnExactPutAt.j0 k l0 a1 l2 bt126.1 bt126.2 t130 t133 bt136.1 bt136.2 (bt136.2 != bt126.2)) else (none))))))))))) = some r := h
  clear h
  by_cases c4 : (l0.length : Int) > 1048576
  · rw [if_pos c4] at H
    have c4b0 : decide (1048576 < (l0.length : Int)) = true := decide_eq_true c4
    have c4b1 : decide (1048576 < l0.length) = true := decide_eq_true (by omega)
    clear c4
    obtain rfl := Option.some.inj H
    go_enter Try.func5, Try.ntmps5
    go_wp2
    go_ret
    exact ⟨by first | rfl | (simp [errW_none, errW_some] <;> rfl) | (simp [*, errW_none, errW_some] <;> rfl), by repeat (first | (with_reducible first | exact HB.out | apply below_alloc | apply pw_below_drewN | apply below_drew1) | exact HB.out)⟩
  · rw [if_neg c4] at H
    have c4b0 : decide (1048576 < (l0.length : Int)) = false := decide_eq_false c4
    have c4b1 : decide (1048576 < l0.length) = false := decide_eq_false (by omega)
    clear c4
    by_cases c5 : (l2.length : Int) > 1048576
    · rw [if_pos c5] at H
      have c5b0 : decide (1048576 < (l2.length : Int)) = true := decide_eq_true c5
      have c5b1 : decide (1048576 < l2.length) = true := decide_eq_true (by omega)
      clear c5
      obtain rfl := Option.some.inj H
      go_enter Try.func5, Try.ntmps5
      go_wp2
      go_ret
      exact ⟨by first | rfl | (simp [errW_none, errW_some] <;> rfl) | (simp [*, errW_none, errW_some] <;> rfl), by repeat (first | (with_reducible first | exact HB.out | apply below_alloc | apply pw_below_drewN | apply below_drew1) | exact HB.out)⟩
    · rw [if_neg c5] at H
      have c5b0 : decide (1048576 < (l2.length : Int)) = false := decide_eq_false c5
      have c5b1 : decide (1048576 < l2.length) = false := decide_eq_false (by omega)
      clear c5
      replace H := Option.bind_eq_some_iff.mp H
      obtain ⟨t120, A60, H⟩ := H
      replace H : ((laws_toByteS.f k l2).bind fun t123 => ((spec_PutAt.f k t120 a1 t123).bind fun bt126 => ((laws_toByteS.f k l0).bind fun t130 => ((laws_toByteS.f k l2).bind fun t133 => ((impl_PutAt.f t130 a1 t133).bind fun bt136 => ((laws_eqByteS.f k bt136.1 bt126.1).bind fun t140 => (if t140 = true then (laws_FnExactPutAt.j0 k l0 a1 l2 bt126.1 bt126.2 t130 t133 bt136.1 bt136.2 (bt136.2 != bt126.2)) else (none)))))))) = some r := H
      have A6 := Aside0.mk A60
      clear A60
      replace H := Option.bind_eq_some_iff.mp H
      obtain ⟨t123, A70, H⟩ := H
      replace H : ((spec_PutAt.f k t120 a1 t123).bind fun bt126 => ((laws_toByteS.f k l0).bind fun t130 => ((laws_toByteS.f k l2).bind fun t133 => ((impl_PutAt.f t130 a1 t133).bind fun bt136 => ((laws_eqByteS.f k bt136.1 bt126.1).bind fun t140 => (if t140 = true then (laws_FnExactPutAt.j0 k l0 a1 l2 bt126.1 bt126.2 t130 t133 bt136.1 bt136.2 (bt136.2 != bt126.2)) else (none))))))) = some r := H
      have A7 := Aside0.mk A70
      clear A70
      replace H := Option.bind_eq_some_iff.mp H
      obtain ⟨⟨t126, t127⟩, A80, H⟩ := H
      replace H : ((laws_toByteS.f k l0).bind fun t130 => ((laws_toByteS.f k l2).bind fun t133 => ((impl_PutAt.f t130 a1 t133).bind fun bt136 => ((laws_eqByteS.f k bt136.1 t126).bind fun t140 => (if t140 = true then (laws_FnExactPutAt.j0 k l0 a1 l2 t126 t127 t130 t133 bt136.1 bt136.2 (bt136.2 != t127)) else (none)))))) = some r := H
      have A8 := Aside0.mk A80
      clear A80
      replace H := Option.bind_eq_some_iff.mp H
      obtain ⟨t130, A90, H⟩ := H
      replace H : ((laws_toByteS.f k l2).bind fun t133 => ((impl_PutAt.f t130 a1 t133).bind fun bt136 => ((laws_eqByteS.f k bt136.1 t126).bind fun t140 => (if t140 = true then (laws_FnExactPutAt.j0 k l0 a1 l2 t126 t127 t130 t133 bt136.1 bt136.2 (bt136.2 != t127)) else (none))))) = some r := H
      have A9 := Aside0.mk A90
      clear A90
      replace H := Option.bind_eq_some_iff.mp H
      obtain ⟨t133, A100, H⟩ := H
      replace H : ((impl_PutAt.f t130 a1 t133).bind fun bt136 => ((laws_eqByteS.f k bt136.1 t126).bind fun t140 => (if t140 = true then (laws_FnExactPutAt.j0 k l0 a1 l2 t126 t127 t130 t133 bt136.1 bt136.2 (bt136.2 != t127)) else (none)))) = some r := H
      have A10 := Aside0.mk A100
      clear A100
      replace H := Option.bind_eq_some_iff.mp H
      obtain ⟨⟨t136, t137⟩, A110, H⟩ := H
      replace H : ((laws_eqByteS.f k t136 t126).bind fun t140 => (if t140 = true then (laws_FnExactPutAt.j0 k l0 a1 l2 t126 t127 t130 t133 t136 t137 (t137 != t127)) else (none))) = some r := H
      have A11 := Aside0.mk A110
      clear A110
      have HC12 := Aside0.mk H
      clear H
      go_enter Try.func5, Try.ntmps5
      go_upto_region 9 with (first | ((with_reducible refine gate_callee (f := 16) rfl ?_); refine goesL_ (some 26) rfl rfl Try.func16 (by kernel_rfl) rfl #[.slice A0 l0.length c0] rfl (by (try simp only [List.map_toArray, List.map_cons, List.map_nil]); first | done | rfl | (simp only [List.length_drop, List.length_take]; rfl)) ?_; (with_reducible refine (laws_toByteS.calls k _ _ l0 t120 _ ?side1 ?side2 A6.out).mono ?_); (case side1 => repeat (first | exact HR0.out | (with_reducible refine Kd.C_alloc ?_ _) | (with_reducible refine Kd.C_drewN ?_ _) | (with_reducible refine Kd.C_drew ?_))); (case side2 => exact HC0.out); rintro e w13 ⟨v121, rfl, ho0, hb⟩; refine ⟨_, rfl, ?_⟩; have n0_ := Aside0.mk (Kd.R_lower ho0 (below_size (by repeat (first | (with_reducible first | exact HB.out | apply below_alloc | apply pw_below_drewN | apply below_drew1) | exact HB.out)))); have n1_ := Aside0.mk (below_step (by repeat (first | (with_reducible first | exact HB.out | apply below_alloc | apply pw_below_drewN | apply below_drew1) | exact HB.out)) hb); clear HB; have HO122 := n0_; have HB := n1_; clear n0_ n1_; (try clear hb); (try clear hb2); (try clear hk); (try clear hi); (try clear ho0)) | ((with_reducible refine gate_callee (f := 16) rfl ?_); refine goesL_ (some 29) rfl rfl Try.func16 (by kernel_rfl) rfl #[.slice A2 l2.length c2] rfl (by (try simp only [List.map_toArray, List.map_cons, List.map_nil]); first | done | rfl | (simp only [List.length_drop, List.length_take]; rfl)) ?_; (with_reducible refine (laws_toByteS.calls k _ _ l2 t123 _ ?side1 ?side2 A7.out).mono ?_); (case side1 => repeat (first | exact (Kd.C_below HR2.out HB.out) | (with_reducible refine Kd.C_alloc ?_ _) | (with_reducible refine Kd.C_drewN ?_ _) | (with_reducible refine Kd.C_drew ?_))); (case side2 => exact HC2.out); rintro e w14 ⟨v124, rfl, ho0, hb⟩; refine ⟨_, rfl, ?_⟩; have n0_ := Aside0.mk (Kd.R_elder' (by (with_reducible repeat (first | apply Kd.R_alloc | apply Kd.R_drewN | apply Kd.R_drew)); exact HO122.out) (Kd.R_base ho0) hb); have n1_ := Aside0.mk (Kd.R_lower (Kd.R_new' ho0 (Kd.R_lt (by (with_reducible repeat (first | apply Kd.R_alloc | apply Kd.R_drewN | apply Kd.R_drew)); exact HO122.out))) (below_size (by repeat (first | (with_reducible first | exact HB.out | apply below_alloc | apply pw_below_drewN | apply below_drew1) | exact HB.out)))); have n2_ := Aside0.mk (below_step (by repeat (first | (with_reducible first | exact HB.out | apply below_alloc | apply pw_below_drewN | apply below_drew1) | exact HB.out)) hb); clear HO122; clear HB; have HO122 := n0_; have HO125 := n1_; have HB := n2_; clear n0_ n1_ n2_; (try clear hb); (try clear hb2); (try clear hk); (try clear hi); (try clear ho0); obtain ⟨Ao15, co15, eo15⟩ := Kd.R_slice HO122.out; subst eo15; obtain ⟨Ao16, co16, eo16⟩ := Kd.R_slice HO125.out; subst eo16) | ((with_reducible refine gate_callee (f := 21) rfl ?_); refine goesL_ (some 30) rfl rfl Try.func21 (by kernel_rfl) rfl #[.slice Ao15 t120.length co15, .int .i64 a1, .slice Ao16 t123.length co16] rfl (by (try simp only [List.map_toArray, List.map_cons, List.map_nil]); first | done | rfl | (simp only [List.length_drop, List.length_take]; rfl)) ?_; (with_reducible refine (spec_PutAt.calls k _ _ t120 a1 _ _ t123 t126 t127 _ ?side1 ?side2 ?side3 ?side4 A8.out).mono ?_); (case side1 => repeat (first | exact (Kd.R_reads' HO122.out).2.2 | (with_reducible refine Kd.C_alloc ?_ _) | (with_reducible refine Kd.C_drewN ?_ _) | (with_reducible refine Kd.C_drew ?_))); (case side2 => exact (Kd.R_reads' HO122.out).2.1); (case side3 => repeat (first | exact (Kd.R_reads' HO125.out).2.2 | (with_reducible refine Kd.C_alloc ?_ _) | (with_reducible refine Kd.C_drewN ?_ _) | (with_reducible refine Kd.C_drew ?_))); (case side4 => exact (Kd.R_reads' HO125.out).2.1); rintro e w17 ⟨v128, rfl, ho0, hb⟩; refine ⟨_, rfl, ?_⟩; have n0_ := Aside0.mk (Kd.R_elder' (by (with_reducible repeat (first | apply Kd.R_alloc | apply Kd.R_drewN | apply Kd.R_drew)); exact HO122.out) (Kd.R_base ho0) hb); have n1_ := Aside0.mk (Kd.R_elder' (by (with_reducible repeat (first | apply Kd.R_alloc | apply Kd.R_drewN | apply Kd.R_drew)); exact HO125.out) (Kd.R_base ho0) hb); have n2_ := Aside0.mk (Kd.R_lower (Kd.R_new' (Kd.R_new' ho0 (Kd.R_lt (by (with_reducible repeat (first | apply Kd.R_alloc | apply Kd.R_drewN | apply Kd.R_drew)); exact HO122.out))) (Kd.R_lt (by (with_reducible repeat (first | apply Kd.R_alloc | apply Kd.R_drewN | apply Kd.R_drew)); exact HO125.out))) (below_size (by repeat (first | (with_reducible first | exact HB.out | apply below_alloc | apply pw_below_drewN | apply below_drew1) | exact HB.out)))); have n3_ := Aside0.mk (below_step (by repeat (first | (with_reducible first | exact HB.out | apply below_alloc | apply pw_below_drewN | apply below_drew1) | exact HB.out)) hb); clear HO122; clear HO125; clear HB; have HO122 := n0_; have HO125 := n1_; have HO129 := n2_; have HB := n3_; clear n0_ n1_ n2_ n3_; (try clear hb); (try clear hb2); (try clear hk); (try clear hi); (try clear ho0)) | ((with_reducible refine gate_callee (f := 16) rfl ?_); refine goesL_ (some 34) rfl rfl Try.func16 (by kernel_rfl) rfl #[.slice A0 l0.length c0] rfl (by (try simp only [List.map_toArray, List.map_cons, List.map_nil]); first | done | rfl | (simp only [List.length_drop, List.length_take]; rfl)) ?_; (with_reducible refine (laws_toByteS.calls k _ _ l0 t130 _ ?side1 ?side2 A9.out).mono ?_); (case side1 => repeat (first | exact (Kd.C_below HR0.out HB.out) | (with_reducible refine Kd.C_alloc ?_ _) | (with_reducible refine Kd.C_drewN ?_ _) | (with_reducible refine Kd.C_drew ?_))); (case side2 => exact HC0.out); rintro e w18 ⟨v131, rfl, ho0, hb⟩; refine ⟨_, rfl, ?_⟩; have n0_ := Aside0.mk (Kd.R_elder' (by (with_reducible repeat (first | apply Kd.R_alloc | apply Kd.R_drewN | apply Kd.R_drew)); exact HO122.out) (Kd.R_base ho0) hb); have n1_ := Aside0.mk (Kd.R_elder' (by (with_reducible repeat (first | apply Kd.R_alloc | apply Kd.R_drewN | apply Kd.R_drew)); exact HO125.out) (Kd.R_base ho0) hb); have n2_ := Aside0.mk (Kd.R_elder' (by (with_reducible repeat (first | apply Kd.R_alloc | apply Kd.R_drewN | apply Kd.R_drew)); exact HO129.out) (Kd.R_base ho0) hb); have n3_ := Aside0.mk (Kd.R_lower (Kd.R_new' (Kd.R_new' (Kd.R_new' ho0 (Kd.R_lt (by (with_reducible repeat (first | apply Kd.R_alloc | apply Kd.R_drewN | apply Kd.R_drew)); exact HO122.out))) (Kd.R_lt (by (with_reducible repeat (first | apply Kd.R_alloc | apply Kd.R_drewN | apply Kd.R_drew)); exact HO125.out))) (Kd.R_lt (by (with_reducible repeat (first | apply Kd.R_alloc | apply Kd.R_drewN | apply Kd.R_drew)); exact HO129.out))) (below_size (by repeat (first | (with_reducible first | exact HB.out | apply below_alloc | apply pw_below_drewN | apply below_drew1) | exact HB.out)))); have n4_ := Aside0.mk (below_step (by repeat (first | (with_reducible first | exact HB.out | apply below_alloc | apply pw_below_drewN | apply below_drew1) | exact HB.out)) hb); clear HO122; clear HO125; clear HO129; clear HB; have HO122 := n0_; have HO125 := n1_; have HO129 := n2_; have HO132 := n3_; have HB := n4_; clear n0_ n1_ n2_ n3_ n4_; (try clear hb); (try clear hb2); (try clear hk); (try clear hi); (try clear ho0)) | ((with_reducible refine gate_callee (f := 16) rfl ?_); refine goesL_ (some 36) rfl rfl Try.func16 (by kernel_rfl) rfl #[.slice A2 l2.length c2] rfl (by (try simp only [List.map_toArray, List.map_cons, List.map_nil]); first | done | rfl | (simp only [List.length_drop, List.length_take]; rfl)) ?_; (with_reducible refine (laws_toByteS.calls k _ _ l2 t133 _ ?side1 ?side2 A10.out).mono ?_); (case side1 => repeat (first | exact (Kd.C_below HR2.out HB.out) | (with_reducible refine Kd.C_alloc ?_ _) | (with_reducible refine Kd.C_drewN ?_ _) | (with_reducible refine Kd.C_drew ?_))); (case side2 => exact HC2.out); rintro e w19 ⟨v134, rfl, ho0, hb⟩; refine ⟨_, rfl, ?_⟩; have n0_ := Aside0.mk (Kd.R_elder' (by (with_reducible repeat (first | apply Kd.R_alloc | apply Kd.R_drewN | apply Kd.R_drew)); exact HO122.out) (Kd.R_base ho0) hb); have n1_ := Aside0.mk (Kd.R_elder' (by (with_reducible repeat (first | apply Kd.R_alloc | apply Kd.R_drewN | apply Kd.R_drew)); exact HO125.out) (Kd.R_base ho0) hb); have n2_ := Aside0.mk (Kd.R_elder' (by (with_reducible repeat (first | apply Kd.R_alloc | apply Kd.R_drewN | apply Kd.R_drew)); exact HO129.out) (Kd.R_base ho0) hb); have n3_ := Aside0.mk (Kd.R_elder' (by (with_reducible repeat (first | apply Kd.R_alloc | apply Kd.R_drewN | apply Kd.R_drew)); exact HO132.out) (Kd.R_base ho0) hb); have n4_ := Aside0.mk (Kd.R_lower (Kd.R_new' (Kd.R_new' (Kd.R_new' (Kd.R_new' ho0 (Kd.R_lt (by (with_reducible repeat (first | apply Kd.R_alloc | apply Kd.R_drewN | apply Kd.R_drew)); exact HO122.out))) (Kd.R_lt (by (with_reducible repeat (first | apply Kd.R_alloc | apply Kd.R_drewN | apply Kd.R_drew)); exact HO125.out))) (Kd.R_lt (by (with_reducible repeat (first | apply Kd.R_alloc | apply Kd.R_drewN | apply Kd.R_drew)); exact HO129.out))) (Kd.R_lt (by (with_reducible repeat (first | apply Kd.R_alloc | apply Kd.R_drewN | apply Kd.R_drew)); exact HO132.out))) (below_size (by repeat (first | (with_reducible first | exact HB.out | apply below_alloc | apply pw_below_drewN | apply below_drew1) | exact HB.out)))); have n5_ := Aside0.mk (below_step (by repeat (first | (with_reducible first | exact HB.out | apply below_alloc | apply pw_below_drewN | apply below_drew1) | exact HB.out)) hb); clear HO122; clear HO125; clear HO129; clear HO132; clear HB; have HO122 := n0_; have HO125 := n1_; have HO129 := n2_; have HO132 := n3_; have HO135 := n4_; have HB := n5_; clear n0_ n1_ n2_ n3_ n4_ n5_; (try clear hb); (try clear hb2); (try clear hk); (try clear hi); (try clear ho0); obtain ⟨Ao20, co20, eo20⟩ := Kd.R_slice HO132.out; subst eo20; obtain ⟨Ao21, co21, eo21⟩ := Kd.R_slice HO135.out; subst eo21) | ((with_reducible refine gate_callee (f := 22) rfl ?_); refine goesL_ (some 41) rfl rfl Try.func22 (by kernel_rfl) rfl #[.slice Ao20 t130.length co20, .int .i64 a1, .slice Ao21 t133.length co21] rfl (by (try simp only [List.map_toArray, List.map_cons, List.map_nil]); first | done | rfl | (simp only [List.length_drop, List.length_take]; rfl)) ?_; (with_reducible refine (impl_PutAt.calls _ _ t130 a1 _ _ t133 t136 t137 _ ?side1 ?side2 ?side3 ?side4 A11.out).mono ?_); (case side1 => repeat (first | exact (Kd.R_reads' HO132.out).2.2 | (with_reducible refine Kd.C_alloc ?_ _) | (with_reducible refine Kd.C_drewN ?_ _) | (with_reducible refine Kd.C_drew ?_))); (case side2 => exact (Kd.R_reads' HO132.out).2.1); (case side3 => repeat (first | exact (Kd.R_reads' HO135.out).2.2 | (with_reducible refine Kd.C_alloc ?_ _) | (with_reducible refine Kd.C_drewN ?_ _) | (with_reducible refine Kd.C_drew ?_))); (case side4 => exact (Kd.R_reads' HO135.out).2.1); rintro e w22 ⟨v138, rfl, ho0, hb⟩; refine ⟨_, rfl, ?_⟩; have n0_ := Aside0.mk (Kd.R_elder' (by (with_reducible repeat (first | apply Kd.R_alloc | apply Kd.R_drewN | apply Kd.R_drew)); exact HO122.out) (Kd.R_base ho0) hb); have n1_ := Aside0.mk (Kd.R_elder' (by (with_reducible repeat (first | apply Kd.R_alloc | apply Kd.R_drewN | apply Kd.R_drew)); exact HO125.out) (Kd.R_base ho0) hb); have n2_ := Aside0.mk (Kd.R_elder' (by (with_reducible repeat (first | apply Kd.R_alloc | apply Kd.R_drewN | apply Kd.R_drew)); exact HO129.out) (Kd.R_base ho0) hb); have n3_ := Aside0.mk (Kd.R_elder' (by (with_reducible repeat (first | apply Kd.R_alloc | apply Kd.R_drewN | apply Kd.R_drew)); exact HO132.out) (Kd.R_base ho0) hb); have n4_ := Aside0.mk (Kd.R_elder' (by (with_reducible repeat (first | apply Kd.R_alloc | apply Kd.R_drewN | apply Kd.R_drew)); exact HO135.out) (Kd.R_base ho0) hb); have n5_ := Aside0.mk (Kd.R_lower (Kd.R_new' (Kd.R_new' (Kd.R_new' (Kd.R_new' (Kd.R_new' ho0 (Kd.R_lt (by (with_reducible repeat (first | apply Kd.R_alloc | apply Kd.R_drewN | apply Kd.R_drew)); exact HO122.out))) (Kd.R_lt (by (with_reducible repeat (first | apply Kd.R_alloc | apply Kd.R_drewN | apply Kd.R_drew)); exact HO125.out))) (Kd.R_lt (by (with_reducible repeat (first | apply Kd.R_alloc | apply Kd.R_drewN | apply Kd.R_drew)); exact HO129.out))) (Kd.R_lt (by (with_reducible repeat (first | apply Kd.R_alloc | apply Kd.R_drewN | apply Kd.R_drew)); exact HO132.out))) (Kd.R_lt (by (with_reducible repeat (first | apply Kd.R_alloc | apply Kd.R_drewN | apply Kd.R_drew)); exact HO135.out))) (below_size (by repeat (first | (with_reducible first | exact HB.out | apply below_alloc | apply pw_below_drewN | apply below_drew1) | exact HB.out)))); have n6_ := Aside0.mk (below_step (by repeat (first | (with_reducible first | exact HB.out | apply below_alloc | apply pw_below_drewN | apply below_drew1) | exact HB.out)) hb); clear HO122; clear HO125; clear HO129; clear HO132; clear HO135; clear HB; have HO122 := n0_; have HO125 := n1_; have HO129 := n2_; have HO132 := n3_; have HO135 := n4_; have HO139 := n5_; have HB := n6_; clear n0_ n1_ n2_ n3_ n4_ n5_ n6_; (try clear hb); (try clear hb2); (try clear hk); (try clear hi); (try clear ho0)))
      (try simp only [Act.put, List.setIfInBounds_toArray, List.set_cons_zero, List.set_cons_succ])
      go_cut [52] (fun v52 wc => ∃ (kq : Nat) (x52_11 : Bool), v52 = .bool x52_11 ∧ Aside0 (laws_FnExactPutAt.j0 kq l0 a1 l2 t126 t127 t130 t133 t136 t137 x52_11 = some r) ∧ Aside0 (kq ≤ k) ∧ Aside0 (Kd.R (Kd.int .u8) 5 wc w.heap.size (fun k_ => some k_ ≠ ((.slice Ao20 t130.length co20) : Value).ownBlock ∧ some k_ ≠ ((.slice Ao21 t133.length co21) : Value).ownBlock ∧ some k_ ≠ (v138 : Value).ownBlock) v128 t126) ∧ Aside0 (Kd.R (Kd.int .u8) 5 wc w.heap.size (fun k_ => some k_ ≠ (v128 : Value).ownBlock ∧ some k_ ≠ ((.slice Ao21 t133.length co21) : Value).ownBlock ∧ some k_ ≠ (v138 : Value).ownBlock) (.slice Ao20 t130.length co20) t130) ∧ Aside0 (Kd.R (Kd.int .u8) 5 wc w.heap.size (fun k_ => some k_ ≠ (v128 : Value).ownBlock ∧ some k_ ≠ ((.slice Ao20 t130.length co20) : Value).ownBlock ∧ some k_ ≠ (v138 : Value).ownBlock) (.slice Ao21 t133.length co21) t133) ∧ Aside0 (Kd.R (Kd.int .u8) 5 wc w.heap.size (fun k_ => some k_ ≠ (v128 : Value).ownBlock ∧ some k_ ≠ ((.slice Ao20 t130.length co20) : Value).ownBlock ∧ some k_ ≠ ((.slice Ao21 t133.length co21) : Value).ownBlock) v138 t136) ∧ Aside0 (Below w.heap.size w wc))
      case first =>
        have H := HC12.out
        clear HC12
        replace H := Option.bind_eq_some_iff.mp H
        obtain ⟨t140, A230, H⟩ := H
        replace H : (if t140 = true then (laws_FnExactPutAt.j0 k l0 a1 l2 t126 t127 t130 t133 t136 t137 (t137 != t127)) else (none)) = some r := H
        have A23 := Aside0.mk A230
        clear A230
        by_cases c24 : t140 = true
        · subst c24
          have H1 : (laws_FnExactPutAt.j0 k l0 a1 l2 t126 t127 t130 t133 t136 t137 (t137 != t127)) = some r := by rw [if_pos rfl] at H; exact H
          clear H
          have H := H1
          clear H1
          have H' := Aside0.mk H
          clear H
          obtain ⟨Ao25, co25, eo25⟩ := Kd.R_slice HO139.out
          subst eo25
          obtain ⟨Ao26, co26, eo26⟩ := Kd.R_slice HO129.out
          subst eo26
          go_wp2_with (first | ((with_reducible refine gate_callee (f := 18) rfl ?_); refine goesL_ (some 46) rfl rfl Try.func18 (by kernel_rfl) rfl #[.slice Ao25 t136.length co25, .slice Ao26 t126.length co26] rfl (by (try simp only [List.map_toArray, List.map_cons, List.map_nil]); first | done | rfl | (simp only [List.length_drop, List.length_take]; rfl)) ?_; (with_reducible refine (laws_eqByteS.calls k _ _ t136 _ _ t126 true _ ?side1 ?side2 ?side3 ?side4 A23.out).mono ?_); (case side1 => repeat (first | exact (Kd.R_reads' HO139.out).2.2 | (with_reducible refine Kd.C_alloc ?_ _) | (with_reducible refine Kd.C_drewN ?_ _) | (with_reducible refine Kd.C_drew ?_))); (case side2 => exact (Kd.R_reads' HO139.out).2.1); (case side3 => repeat (first | exact (Kd.R_reads' HO129.out).2.2 | (with_reducible refine Kd.C_alloc ?_ _) | (with_reducible refine Kd.C_drewN ?_ _) | (with_reducible refine Kd.C_drew ?_))); (case side4 => exact (Kd.R_reads' HO129.out).2.1); rintro e w' ⟨rfl, ⟨nd, rfl⟩⟩; refine ⟨_, rfl, ?_⟩))
          go_meet
          case rel => exact ⟨_, ((t137 != t127)), (by first | rfl | (simp; done) | (simp [*]; done)), H', ⟨by first | omega | exact Nat.le_refl _⟩, ⟨by (with_reducible repeat (first | apply Kd.R_alloc | apply Kd.R_drewN | apply Kd.R_drew)); exact Kd.R_mono HO129.out (fun _ hk => ⟨hk.1.1.2, ⟨hk.1.2, hk.2⟩⟩)⟩, ⟨by (with_reducible repeat (first | apply Kd.R_alloc | apply Kd.R_drewN | apply Kd.R_drew)); exact Kd.R_mono HO132.out (fun _ hk => ⟨hk.1.1.2, ⟨hk.1.2, hk.2⟩⟩)⟩, ⟨by (with_reducible repeat (first | apply Kd.R_alloc | apply Kd.R_drewN | apply Kd.R_drew)); exact Kd.R_mono HO135.out (fun _ hk => ⟨hk.1.1.2, ⟨hk.1.2, hk.2⟩⟩)⟩, ⟨by (with_reducible repeat (first | apply Kd.R_alloc | apply Kd.R_drewN | apply Kd.R_drew)); exact Kd.R_mono HO139.out (fun _ hk => ⟨hk.1.1.2, ⟨hk.1.2, hk.2⟩⟩)⟩, ⟨by repeat (first | (with_reducible first | exact HB.out | apply below_alloc | apply pw_below_drewN | apply below_drew1) | exact HB.out)⟩⟩
        · replace c24 := Bool.eq_false_iff.mpr c24
          subst c24
          have H1 : (none) = some r := by rw [if_neg (show ¬ (false = true) by decide)] at H; exact H
          clear H
          have H := H1
          clear H1
          exact absurd H (by simp)
      case rest =>
        clear HC12
        try clear c1
        try clear c2
        try clear p2
        try clear c4
        try clear c4b0
        try clear c4b1
        try clear c5
        try clear c5b0
        try clear c5b1
        try clear c16
        try clear c18
        try clear c21
        try clear c22
        try clear c24
        obtain ⟨kq, x52_11, rfl, HA, HJ11, HO_7, HO_9, HO_10, HO_11, HB⟩ := hcut
        cases kq with
        | zero => exact absurd HA.out (by simp [laws_FnExactPutAt.j0])
        | succ kj11 =>
          have H := HA.out
          clear HA
          simp only [laws_FnExactPutAt.j0] at H
          by_cases c27 : x52_11 = true
          · subst c27
            have H1 : (none) = some r := by rw [if_pos rfl] at H; exact H
            clear H
            have H := H1
            clear H1
            exact absurd H (by simp)
          · replace c27 := Bool.eq_false_iff.mpr c27
            subst c27
            have H1 : ((laws_toByteS.f kj11 l0).bind fun t141 => ((laws_eqByteS.f kj11 t130 t141).bind fun t144 => (if t144 = true then ((laws_toByteS.f kj11 l2).bind fun t145 => ((laws_eqByteS.f kj11 t133 t145).bind fun t148 => (if t148 = true then ((laws_markByteS.f kj11 t130 1).bind fun bt149 => ((laws_markByteS.f kj11 t133 bt149.1).bind fun bt151 => (if bt151.1 < 0 then (none) else ((laws_eqByteS.f kj11 t136 t126).bind fun t153 => (if t153 = true then (laws_FnExactPutAt.j1 kj11 l0 a1 l2 t126 t127 t136 (t137 != t127)) else (none)))))) else (none)))) else (none)))) = some r := by rw [if_neg (show ¬ (false = true) by decide)] at H; exact H
            clear H
            have H := H1
            clear H1
            replace H := Option.bind_eq_some_iff.mp H
            obtain ⟨t141, A280, H⟩ := H
            replace H : ((laws_eqByteS.f kj11 t130 t141).bind fun t144 => (if t144 = true then ((laws_toByteS.f kj11 l2).bind fun t145 => ((laws_eqByteS.f kj11 t133 t145).bind fun t148 => (if t148 = true then ((laws_markByteS.f kj11 t130 1).bind fun bt149 => ((laws_markByteS.f kj11 t133 bt149.1).bind fun bt151 => (if bt151.1 < 0 then (none) else ((laws_eqByteS.f kj11 t136 t126).bind fun t153 => (if t153 = true then (laws_FnExactPutAt.j1 kj11 l0 a1 l2 t126 t127 t136 (t137 != t127)) else (none)))))) else (none)))) else (none))) = some r := H
            have A28 := Aside0.mk A280
            clear A280
            replace H := Option.bind_eq_some_iff.mp H
            obtain ⟨t144, A290, H⟩ := H
            replace H : (if t144 = true then ((laws_toByteS.f kj11 l2).bind fun t145 => ((laws_eqByteS.f kj11 t133 t145).bind fun t148 => (if t148 = true then ((laws_markByteS.f kj11 t130 1).bind fun bt149 => ((laws_markByteS.f kj11 t133 bt149.1).bind fun bt151 => (if bt151.1 < 0 then (none) else ((laws_eqByteS.f kj11 t136 t126).bind fun t153 => (if t153 = true then (laws_FnExactPutAt.j1 kj11 l0 a1 l2 t126 t127 t136 (t137 != t127)) else (none)))))) else (none)))) else (none)) = some r := H
            have A29 := Aside0.mk A290
            clear A290
            by_cases c30 : t144 = true
            · subst c30
              have H1 : ((laws_toByteS.f kj11 l2).bind fun t145 => ((laws_eqByteS.f kj11 t133 t145).bind fun t148 => (if t148 = true then ((laws_markByteS.f kj11 t130 1).bind fun bt149 => ((laws_markByteS.f kj11 t133 bt149.1).bind fun bt151 => (if bt151.1 < 0 then (none) else ((laws_eqByteS.f kj11 t136 t126).bind fun t153 => (if t153 = true then (laws_FnExactPutAt.j1 kj11 l0 a1 l2 t126 t127 t136 (t137 != t127)) else (none)))))) else (none)))) = some r := by rw [if_pos rfl] at H; exact H
              clear H
              have H := H1
              clear H1
              replace H := Option.bind_eq_some_iff.mp H
              obtain ⟨t145, A310, H⟩ := H
              replace H : ((laws_eqByteS.f kj11 t133 t145).bind fun t148 => (if t148 = true then ((laws_markByteS.f kj11 t130 1).bind fun bt149 => ((laws_markByteS.f kj11 t133 bt149.1).bind fun bt151 => (if bt151.1 < 0 then (none) else ((laws_eqByteS.f kj11 t136 t126).bind fun t153 => (if t153 = true then (laws_FnExactPutAt.j1 kj11 l0 a1 l2 t126 t127 t136 (t137 != t127)) else (none)))))) else (none))) = some r := H
              have A31 := Aside0.mk A310
              clear A310
              replace H := Option.bind_eq_some_iff.mp H
              obtain ⟨t148, A320, H⟩ := H
              replace H : (if t148 = true then ((laws_markByteS.f kj11 t130 1).bind fun bt149 => ((laws_markByteS.f kj11 t133 bt149.1).bind fun bt151 => (if bt151.1 < 0 then (none) else ((laws_eqByteS.f kj11 t136 t126).bind fun t153 => (if t153 = true then (laws_FnExactPutAt.j1 kj11 l0 a1 l2 t126 t127 t136 (t137 != t127)) else (none)))))) else (none)) = some r := H
              have A32 := Aside0.mk A320
              clear A320
              by_cases c33 : t148 = true
              · subst c33
                have H1 : ((laws_markByteS.f kj11 t130 1).bind fun bt149 => ((laws_markByteS.f kj11 t133 bt149.1).bind fun bt151 => (if bt151.1 < 0 then (none) else ((laws_eqByteS.f kj11 t136 t126).bind fun t153 => (if t153 = true then (laws_FnExactPutAt.j1 kj11 l0 a1 l2 t126 t127 t136 (t137 != t127)) else (none)))))) = some r := by rw [if_pos rfl] at H; exact H
                clear H
                have H := H1
                clear H1
                replace H := Option.bind_eq_some_iff.mp H
                obtain ⟨⟨t149, t150⟩, A340, H⟩ := H
                replace H : ((laws_markByteS.f kj11 t133 t149).bind fun bt151 => (if bt151.1 < 0 then (none) else ((laws_eqByteS.f kj11 t136 t126).bind fun t153 => (if t153 = true then (laws_FnExactPutAt.j1 kj11 l0 a1 l2 t126 t127 t136 (t137 != t127)) else (none))))) = some r := H
                have A34 := Aside0.mk A340
                clear A340
                replace H := Option.bind_eq_some_iff.mp H
                obtain ⟨⟨t151, t152⟩, A350, H⟩ := H
                replace H : (if t151 < 0 then (none) else ((laws_eqByteS.f kj11 t136 t126).bind fun t153 => (if t153 = true then (laws_FnExactPutAt.j1 kj11 l0 a1 l2 t126 t127 t136 (t137 != t127)) else (none)))) = some r := H
                have A35 := Aside0.mk A350
                clear A350
                have HC36 := Aside0.mk H
                clear H
                go_upto_region 18 with (first | ((with_reducible refine gate_callee (f := 16) rfl ?_); refine goesL_ (some 55) rfl rfl Try.func16 (by kernel_rfl) rfl #[.slice A0 l0.length c0] rfl (by (try simp only [List.map_toArray, List.map_cons, List.map_nil]); first | done | rfl | (simp only [List.length_drop, List.length_take]; rfl)) ?_; (with_reducible refine (laws_toByteS.calls kj11 _ _ l0 t141 _ ?side1 ?side2 A28.out).mono ?_); (case side1 => repeat (first | exact (Kd.C_below HR0.out HB.out) | (with_reducible refine Kd.C_alloc ?_ _) | (with_reducible refine Kd.C_drewN ?_ _) | (with_reducible refine Kd.C_drew ?_))); (case side2 => exact HC0.out); rintro e w37 ⟨v142, rfl, ho0, hb⟩; refine ⟨_, rfl, ?_⟩; have n0_ := Aside0.mk (Kd.R_elder' (by (with_reducible repeat (first | apply Kd.R_alloc | apply Kd.R_drewN | apply Kd.R_drew)); exact HO_7.out) (Kd.R_base ho0) hb); have n1_ := Aside0.mk (Kd.R_elder' (by (with_reducible repeat (first | apply Kd.R_alloc | apply Kd.R_drewN | apply Kd.R_drew)); exact HO_9.out) (Kd.R_base ho0) hb); have n2_ := Aside0.mk (Kd.R_elder' (by (with_reducible repeat (first | apply Kd.R_alloc | apply Kd.R_drewN | apply Kd.R_drew)); exact HO_10.out) (Kd.R_base ho0) hb); have n3_ := Aside0.mk (Kd.R_elder' (by (with_reducible repeat (first | apply Kd.R_alloc | apply Kd.R_drewN | apply Kd.R_drew)); exact HO_11.out) (Kd.R_base ho0) hb); have n4_ := Aside0.mk (Kd.R_lower (Kd.R_new' (Kd.R_new' (Kd.R_new' (Kd.R_new' ho0 (Kd.R_lt (by (with_reducible repeat (first | apply Kd.R_alloc | apply Kd.R_drewN | apply Kd.R_drew)); exact HO_7.out))) (Kd.R_lt (by (with_reducible repeat (first | apply Kd.R_alloc | apply Kd.R_drewN | apply Kd.R_drew)); exact HO_9.out))) (Kd.R_lt (by (with_reducible repeat (first | apply Kd.R_alloc | apply Kd.R_drewN | apply Kd.R_drew)); exact HO_10.out))) (Kd.R_lt (by (with_reducible repeat (first | apply Kd.R_alloc | apply Kd.R_drewN | apply Kd.R_drew)); exact HO_11.out))) (below_size (by repeat (first | (with_reducible first | exact HB.out | apply below_alloc | apply pw_below_drewN | apply below_drew1) | exact HB.out)))); have n5_ := Aside0.mk (below_step (by repeat (first | (with_reducible first | exact HB.out | apply below_alloc | apply pw_below_drewN | apply below_drew1) | exact HB.out)) hb); clear HO_7; clear HO_9; clear HO_10; clear HO_11; clear HB; have HO_7 := n0_; have HO_9 := n1_; have HO_10 := n2_; have HO_11 := n3_; have HO143 := n4_; have HB := n5_; clear n0_ n1_ n2_ n3_ n4_ n5_; (try clear hb); (try clear hb2); (try clear hk); (try clear hi); (try clear ho0); obtain ⟨Ao38, co38, eo38⟩ := Kd.R_slice HO143.out; subst eo38) | ((with_reducible refine gate_callee (f := 18) rfl ?_); refine goesL_ (some 56) rfl rfl Try.func18 (by kernel_rfl) rfl #[.slice Ao20 t130.length co20, .slice Ao38 t141.length co38] rfl (by (try simp only [List.map_toArray, List.map_cons, List.map_nil]); first | done | rfl | (simp only [List.length_drop, List.length_take]; rfl)) ?_; (with_reducible refine (laws_eqByteS.calls kj11 _ _ t130 _ _ t141 true _ ?side1 ?side2 ?side3 ?side4 A29.out).mono ?_); (case side1 => repeat (first | exact (Kd.R_reads' HO_9.out).2.2 | (with_reducible refine Kd.C_alloc ?_ _) | (with_reducible refine Kd.C_drewN ?_ _) | (with_reducible refine Kd.C_drew ?_))); (case side2 => exact (Kd.R_reads' HO_9.out).2.1); (case side3 => repeat (first | exact (Kd.R_reads' HO143.out).2.2 | (with_reducible refine Kd.C_alloc ?_ _) | (with_reducible refine Kd.C_drewN ?_ _) | (with_reducible refine Kd.C_drew ?_))); (case side4 => exact (Kd.R_reads' HO143.out).2.1); rintro e w' ⟨rfl, ⟨nd, rfl⟩⟩; refine ⟨_, rfl, ?_⟩) | ((with_reducible refine gate_callee (f := 16) rfl ?_); refine goesL_ (some 60) rfl rfl Try.func16 (by kernel_rfl) rfl #[.slice A2 l2.length c2] rfl (by (try simp only [List.map_toArray, List.map_cons, List.map_nil]); first | done | rfl | (simp only [List.length_drop, List.length_take]; rfl)) ?_; (with_reducible refine (laws_toByteS.calls kj11 _ _ l2 t145 _ ?side1 ?side2 A31.out).mono ?_); (case side1 => repeat (first | exact (Kd.C_below HR2.out (by repeat (first | (with_reducible first | exact HB.out | apply below_alloc | apply pw_below_drewN | apply below_drew1) | exact HB.out))) | (with_reducible refine Kd.C_alloc ?_ _) | (with_reducible refine Kd.C_drewN ?_ _) | (with_reducible refine Kd.C_drew ?_))); (case side2 => exact HC2.out); rintro e w39 ⟨v146, rfl, ho0, hb⟩; refine ⟨_, rfl, ?_⟩; have n0_ := Aside0.mk (Kd.R_elder' (by (with_reducible repeat (first | apply Kd.R_alloc | apply Kd.R_drewN | apply Kd.R_drew)); exact HO_7.out) (Kd.R_base ho0) hb); have n1_ := Aside0.mk (Kd.R_elder' (by (with_reducible repeat (first | apply Kd.R_alloc | apply Kd.R_drewN | apply Kd.R_drew)); exact HO_9.out) (Kd.R_base ho0) hb); have n2_ := Aside0.mk (Kd.R_elder' (by (with_reducible repeat (first | apply Kd.R_alloc | apply Kd.R_drewN | apply Kd.R_drew)); exact HO_10.out) (Kd.R_base ho0) hb); have n3_ := Aside0.mk (Kd.R_elder' (by (with_reducible repeat (first | apply Kd.R_alloc | apply Kd.R_drewN | apply Kd.R_drew)); exact HO_11.out) (Kd.R_base ho0) hb); have n4_ := Aside0.mk (Kd.R_elder' (by (with_reducible repeat (first | apply Kd.R_alloc | apply Kd.R_drewN | apply Kd.R_drew)); exact HO143.out) (Kd.R_base ho0) hb); have n5_ := Aside0.mk (Kd.R_lower (Kd.R_new' (Kd.R_new' (Kd.R_new' (Kd.R_new' (Kd.R_new' ho0 (Kd.R_lt (by (with_reducible repeat (first | apply Kd.R_alloc | apply Kd.R_drewN | apply Kd.R_drew)); exact HO_7.out))) (Kd.R_lt (by (with_reducible repeat (first | apply Kd.R_alloc | apply Kd.R_drewN | apply Kd.R_drew)); exact HO_9.out))) (Kd.R_lt (by (with_reducible repeat (first | apply Kd.R_alloc | apply Kd.R_drewN | apply Kd.R_drew)); exact HO_10.out))) (Kd.R_lt (by (with_reducible repeat (first | apply Kd.R_alloc | apply Kd.R_drewN | apply Kd.R_drew)); exact HO_11.out))) (Kd.R_lt (by (with_reducible repeat (first | apply Kd.R_alloc | apply Kd.R_drewN | apply Kd.R_drew)); exact HO143.out))) (below_size (by repeat (first | (with_reducible first | exact HB.out | apply below_alloc | apply pw_below_drewN | apply below_drew1) | exact HB.out)))); have n6_ := Aside0.mk (below_step (by repeat (first | (with_reducible first | exact HB.out | apply below_alloc | apply pw_below_drewN | apply below_drew1) | exact HB.out)) hb); clear HO_7; clear HO_9; clear HO_10; clear HO_11; clear HO143; clear HB; have HO_7 := n0_; have HO_9 := n1_; have HO_10 := n2_; have HO_11 := n3_; have HO143 := n4_; have HO147 := n5_; have HB := n6_; clear n0_ n1_ n2_ n3_ n4_ n5_ n6_; (try clear hb); (try clear hb2); (try clear hk); (try clear hi); (try clear ho0); obtain ⟨Ao40, co40, eo40⟩ := Kd.R_slice HO147.out; subst eo40) | ((with_reducible refine gate_callee (f := 18) rfl ?_); refine goesL_ (some 61) rfl rfl Try.func18 (by kernel_rfl) rfl #[.slice Ao21 t133.length co21, .slice Ao40 t145.length co40] rfl (by (try simp only [List.map_toArray, List.map_cons, List.map_nil]); first | done | rfl | (simp only [List.length_drop, List.length_take]; rfl)) ?_; (with_reducible refine (laws_eqByteS.calls kj11 _ _ t133 _ _ t145 true _ ?side1 ?side2 ?side3 ?side4 A32.out).mono ?_); (case side1 => repeat (first | exact (Kd.R_reads' HO_10.out).2.2 | (with_reducible refine Kd.C_alloc ?_ _) | (with_reducible refine Kd.C_drewN ?_ _) | (with_reducible refine Kd.C_drew ?_))); (case side2 => exact (Kd.R_reads' HO_10.out).2.1); (case side3 => repeat (first | exact (Kd.R_reads' HO147.out).2.2 | (with_reducible refine Kd.C_alloc ?_ _) | (with_reducible refine Kd.C_drewN ?_ _) | (with_reducible refine Kd.C_drew ?_))); (case side4 => exact (Kd.R_reads' HO147.out).2.1); rintro e w' ⟨rfl, ⟨nd, rfl⟩⟩; refine ⟨_, rfl, ?_⟩) | ((with_reducible refine gate_callee (f := 19) rfl ?_); refine goesL_ (some 65) rfl rfl Try.func19 (by kernel_rfl) rfl #[.slice Ao20 t130.length co20, .int .i64 1] rfl (by (try simp only [List.map_toArray, List.map_cons, List.map_nil]); first | done | rfl | (simp only [List.length_drop, List.length_take]; rfl)) ?_; (with_reducible refine (laws_markByteS.calls kj11 (fun k_ => some k_ = (.slice Ao20 t130.length co20 : Value).ownBlock) (.slice Ao20 t130.length co20) t130 1 t149 t150 w _ ?side1 ?side2 A34.out).mono ?_); (case side1 => repeat (first | (with_reducible first | exact HB.out | apply below_alloc | apply pw_below_drewN | apply below_drew1) | exact HB.out)); (case side2 => exact Kd.R_tight rfl HO_9.out); rintro e w41 ⟨rfl, hy0, hb, hkp⟩; refine ⟨_, rfl, ?_⟩; have n0_ := Aside0.mk (Kd.R_mono (ok' := fun k_ => some k_ ≠ (.slice Ao20 t130.length co20 : Value).ownBlock ∧ some k_ ≠ (.slice Ao21 t133.length co21 : Value).ownBlock ∧ some k_ ≠ (v138 : Value).ownBlock ∧ some k_ ≠ (.slice Ao38 t141.length co38 : Value).ownBlock ∧ some k_ ≠ (.slice Ao40 t145.length co40 : Value).ownBlock) (Kd.R_keptB (HO_7.out) hkp (fun k_ hk_ hs_ => (hk_.1.1.1) hs_)) (fun k_ hk_ => ⟨hk_.1.1.1.1, hk_.1.1.1.2.1, hk_.1.1.1.2.2, hk_.1.1.2, hk_.1.2⟩)); have n1_ := Aside0.mk (Kd.R_reok rfl hy0 (fun k_ e_ => HO_9.out.1 k_ e_)); have n2_ := Aside0.mk (Kd.R_mono (ok' := fun k_ => some k_ ≠ (v128 : Value).ownBlock ∧ some k_ ≠ (.slice Ao20 t130.length co20 : Value).ownBlock ∧ some k_ ≠ (v138 : Value).ownBlock ∧ some k_ ≠ (.slice Ao38 t141.length co38 : Value).ownBlock ∧ some k_ ≠ (.slice Ao40 t145.length co40 : Value).ownBlock) (Kd.R_keptB (HO_10.out) hkp (fun k_ hk_ hs_ => (hk_.1.1.2.1) hs_)) (fun k_ hk_ => ⟨hk_.1.1.1.1, hk_.1.1.1.2.1, hk_.1.1.1.2.2, hk_.1.1.2, hk_.1.2⟩)); have n3_ := Aside0.mk (Kd.R_mono (ok' := fun k_ => some k_ ≠ (v128 : Value).ownBlock ∧ some k_ ≠ (.slice Ao20 t130.length co20 : Value).ownBlock ∧ some k_ ≠ (.slice Ao21 t133.length co21 : Value).ownBlock ∧ some k_ ≠ (.slice Ao38 t141.length co38 : Value).ownBlock ∧ some k_ ≠ (.slice Ao40 t145.length co40 : Value).ownBlock) (Kd.R_keptB (HO_11.out) hkp (fun k_ hk_ hs_ => (hk_.1.1.2.1) hs_)) (fun k_ hk_ => ⟨hk_.1.1.1.1, hk_.1.1.1.2.1, hk_.1.1.1.2.2, hk_.1.1.2, hk_.1.2⟩)); have n4_ := Aside0.mk (Kd.R_mono (ok' := fun k_ => some k_ ≠ (v128 : Value).ownBlock ∧ some k_ ≠ (.slice Ao20 t130.length co20 : Value).ownBlock ∧ some k_ ≠ (.slice Ao21 t133.length co21 : Value).ownBlock ∧ some k_ ≠ (v138 : Value).ownBlock ∧ some k_ ≠ (.slice Ao40 t145.length co40 : Value).ownBlock) (Kd.R_keptB (HO143.out) hkp (fun k_ hk_ hs_ => (hk_.1.1.1.2) hs_)) (fun k_ hk_ => ⟨hk_.1.1.1.1.1.2, hk_.1.1.1.1.2, hk_.1.1.1.2, hk_.1.1.2, hk_.1.2⟩)); have n5_ := Aside0.mk (Kd.R_mono (ok' := fun k_ => some k_ ≠ (v128 : Value).ownBlock ∧ some k_ ≠ (.slice Ao20 t130.length co20 : Value).ownBlock ∧ some k_ ≠ (.slice Ao21 t133.length co21 : Value).ownBlock ∧ some k_ ≠ (v138 : Value).ownBlock ∧ some k_ ≠ (.slice Ao38 t141.length co38 : Value).ownBlock) (Kd.R_keptB (HO147.out) hkp (fun k_ hk_ hs_ => (hk_.1.1.1.2) hs_)) (fun k_ hk_ => ⟨hk_.1.1.1.1.1.2, hk_.1.1.1.1.2, hk_.1.1.1.2, hk_.1.1.2, hk_.1.2⟩)); have n6_ := Aside0.mk (hb); clear HO_7; clear HO_9; clear HO_10; clear HO_11; clear HO143; clear HO147; clear HB; have HO_7 := n0_; have HO_9 := n1_; have HO_10 := n2_; have HO_11 := n3_; have HO143 := n4_; have HO147 := n5_; have HB := n6_; clear n0_ n1_ n2_ n3_ n4_ n5_ n6_; (try clear hb); (try clear hkp); (try clear hy0)) | ((with_reducible refine gate_callee (f := 19) rfl ?_); refine goesL_ (some 68) rfl rfl Try.func19 (by kernel_rfl) rfl #[.slice Ao21 t133.length co21, .int .i64 t149] rfl (by (try simp only [List.map_toArray, List.map_cons, List.map_nil]); first | done | rfl | (simp only [List.length_drop, List.length_take]; rfl)) ?_; (with_reducible refine (laws_markByteS.calls kj11 (fun k_ => some k_ = (.slice Ao21 t133.length co21 : Value).ownBlock) (.slice Ao21 t133.length co21) t133 t149 t151 t152 w _ ?side1 ?side2 A35.out).mono ?_); (case side1 => repeat (first | (with_reducible first | exact HB.out | apply below_alloc | apply pw_below_drewN | apply below_drew1) | exact HB.out)); (case side2 => exact Kd.R_tight rfl HO_10.out); rintro e w42 ⟨rfl, hy0, hb, hkp⟩; refine ⟨_, rfl, ?_⟩; have n0_ := Aside0.mk (Kd.R_mono (ok' := fun k_ => some k_ ≠ (.slice Ao20 t130.length co20 : Value).ownBlock ∧ some k_ ≠ (.slice Ao21 t133.length co21 : Value).ownBlock ∧ some k_ ≠ (v138 : Value).ownBlock ∧ some k_ ≠ (.slice Ao38 t141.length co38 : Value).ownBlock ∧ some k_ ≠ (.slice Ao40 t145.length co40 : Value).ownBlock) (Kd.R_keptB (HO_7.out) hkp (fun k_ hk_ hs_ => (hk_.2.1) hs_)) (fun k_ hk_ => ⟨hk_.1.1, hk_.1.2.1, hk_.1.2.2.1, hk_.1.2.2.2.1, hk_.1.2.2.2.2⟩)); have n1_ := Aside0.mk (Kd.R_mono (ok' := fun k_ => some k_ ≠ (v128 : Value).ownBlock ∧ some k_ ≠ (.slice Ao21 t133.length co21 : Value).ownBlock ∧ some k_ ≠ (v138 : Value).ownBlock ∧ some k_ ≠ (.slice Ao38 t141.length co38 : Value).ownBlock ∧ some k_ ≠ (.slice Ao40 t145.length co40 : Value).ownBlock) (Kd.R_keptB (HO_9.out) hkp (fun k_ hk_ hs_ => (hk_.1.1.2.1) hs_)) (fun k_ hk_ => ⟨hk_.1.1.1.1, hk_.1.1.1.2.1, hk_.1.1.1.2.2, hk_.1.1.2, hk_.1.2⟩)); have n2_ := Aside0.mk (Kd.R_reok rfl hy0 (fun k_ e_ => HO_10.out.1 k_ e_)); have n3_ := Aside0.mk (Kd.R_mono (ok' := fun k_ => some k_ ≠ (v128 : Value).ownBlock ∧ some k_ ≠ (.slice Ao20 t130.length co20 : Value).ownBlock ∧ some k_ ≠ (.slice Ao21 t133.length co21 : Value).ownBlock ∧ some k_ ≠ (.slice Ao38 t141.length co38 : Value).ownBlock ∧ some k_ ≠ (.slice Ao40 t145.length co40 : Value).ownBlock) (Kd.R_keptB (HO_11.out) hkp (fun k_ hk_ hs_ => (hk_.2.2.1) hs_)) (fun k_ hk_ => ⟨hk_.1.1, hk_.1.2.1, hk_.1.2.2.1, hk_.1.2.2.2.1, hk_.1.2.2.2.2⟩)); have n4_ := Aside0.mk (Kd.R_mono (ok' := fun k_ => some k_ ≠ (v128 : Value).ownBlock ∧ some k_ ≠ (.slice Ao20 t130.length co20 : Value).ownBlock ∧ some k_ ≠ (.slice Ao21 t133.length co21 : Value).ownBlock ∧ some k_ ≠ (v138 : Value).ownBlock ∧ some k_ ≠ (.slice Ao40 t145.length co40 : Value).ownBlock) (Kd.R_keptB (HO143.out) hkp (fun k_ hk_ hs_ => (hk_.2.2.1) hs_)) (fun k_ hk_ => ⟨hk_.1.1, hk_.1.2.1, hk_.1.2.2.1, hk_.1.2.2.2.1, hk_.1.2.2.2.2⟩)); have n5_ := Aside0.mk (Kd.R_mono (ok' := fun k_ => some k_ ≠ (v128 : Value).ownBlock ∧ some k_ ≠ (.slice Ao20 t130.length co20 : Value).ownBlock ∧ some k_ ≠ (.slice Ao21 t133.length co21 : Value).ownBlock ∧ some k_ ≠ (v138 : Value).ownBlock ∧ some k_ ≠ (.slice Ao38 t141.length co38 : Value).ownBlock) (Kd.R_keptB (HO147.out) hkp (fun k_ hk_ hs_ => (hk_.2.2.1) hs_)) (fun k_ hk_ => ⟨hk_.1.1, hk_.1.2.1, hk_.1.2.2.1, hk_.1.2.2.2.1, hk_.1.2.2.2.2⟩)); have n6_ := Aside0.mk (hb); clear HO_7; clear HO_9; clear HO_10; clear HO_11; clear HO143; clear HO147; clear HB; have HO_7 := n0_; have HO_9 := n1_; have HO_10 := n2_; have HO_11 := n3_; have HO143 := n4_; have HO147 := n5_; have HB := n6_; clear n0_ n1_ n2_ n3_ n4_ n5_ n6_; (try clear hb); (try clear hkp); (try clear hy0)))
                (try simp only [Act.put, List.setIfInBounds_toArray, List.set_cons_zero, List.set_cons_succ])
                go_cut [81] (fun v81 wc => ∃ (kq : Nat) (x81_35 : Bool), v81 = .bool x81_35 ∧ Aside0 (laws_FnExactPutAt.j1 kq l0 a1 l2 t126 t127 t136 x81_35 = some r) ∧ Aside0 (kq ≤ kj11) ∧ Aside0 (Kd.R (Kd.int .u8) 5 wc w.heap.size (fun k_ => some k_ ≠ (v138 : Value).ownBlock) v128 t126) ∧ Aside0 (Kd.R (Kd.int .u8) 5 wc w.heap.size (fun k_ => some k_ ≠ (v128 : Value).ownBlock) v138 t136) ∧ Aside0 (Below w.heap.size w wc))
                case first =>
                  have H := HC36.out
                  clear HC36
                  by_cases c43 : t151 < 0
                  · rw [if_pos c43] at H
                    exact absurd H (by simp)
                  · rw [if_neg c43] at H
                    have c43b0 : decide (t151 < 0) = false := decide_eq_false c43
                    clear c43
                    (first | rw [c43b0] | (simp only [i64_w, i32_w]; rw [c43b0]) | skip)
                    replace H := Option.bind_eq_some_iff.mp H
                    obtain ⟨t153, A440, H⟩ := H
                    replace H : (if t153 = true then (laws_FnExactPutAt.j1 kj11 l0 a1 l2 t126 t127 t136 (t137 != t127)) else (none)) = some r := H
                    have A44 := Aside0.mk A440
                    clear A440
                    by_cases c45 : t153 = true
                    · subst c45
                      have H1 : (laws_FnExactPutAt.j1 kj11 l0 a1 l2 t126 t127 t136 (t137 != t127)) = some r := by rw [if_pos rfl] at H; exact H
                      clear H
                      have H := H1
                      clear H1
                      have H' := Aside0.mk H
                      clear H
                      obtain ⟨Ao46, co46, eo46⟩ := Kd.R_slice HO_11.out
                      subst eo46
                      obtain ⟨Ao47, co47, eo47⟩ := Kd.R_slice HO_7.out
                      subst eo47
                      go_wp2_with (first | (go_at_call 18; (with_reducible refine (laws_eqByteS.calls kj11 _ _ t136 _ _ t126 true _ ?side1 ?side2 ?side3 ?side4 A44.out).mono ?_); (case side1 => repeat (first | exact (Kd.R_reads' HO_11.out).2.2 | (with_reducible refine Kd.C_alloc ?_ _) | (with_reducible refine Kd.C_drewN ?_ _) | (with_reducible refine Kd.C_drew ?_))); (case side2 => exact (Kd.R_reads' HO_11.out).2.1); (case side3 => repeat (first | exact (Kd.R_reads' HO_7.out).2.2 | (with_reducible refine Kd.C_alloc ?_ _) | (with_reducible refine Kd.C_drewN ?_ _) | (with_reducible refine Kd.C_drew ?_))); (case side4 => exact (Kd.R_reads' HO_7.out).2.1); rintro e w' ⟨rfl, ⟨nd, rfl⟩⟩))
                      go_meet
                      case rel => exact ⟨_, ((t137 != t127)), (by first | rfl | (simp; done) | (simp [*]; done)), H', ⟨by have := HJ11.out; first | omega | exact Nat.le_refl _⟩, ⟨by (with_reducible repeat (first | apply Kd.R_alloc | apply Kd.R_drewN | apply Kd.R_drew)); exact Kd.R_mono HO_7.out (fun _ hk => hk.2.2.1)⟩, ⟨by (with_reducible repeat (first | apply Kd.R_alloc | apply Kd.R_drewN | apply Kd.R_drew)); exact Kd.R_mono HO_11.out (fun _ hk => hk.1)⟩, ⟨by repeat (first | (with_reducible first | exact HB.out | apply below_alloc | apply pw_below_drewN | apply below_drew1) | exact HB.out)⟩⟩
                    · replace c45 := Bool.eq_false_iff.mpr c45
                      subst c45
                      have H1 : (none) = some r := by rw [if_neg (show ¬ (false = true) by decide)] at H; exact H
                      clear H
                      have H := H1
                      clear H1
                      exact absurd H (by simp)
                case rest =>
                  clear HC36
                  try clear c1
                  try clear c2
                  try clear p2
                  try clear c3
                  try clear c4
                  try clear c4b0
                  try clear c4b1
                  try clear c5
                  try clear c5b0
                  try clear c5b1
                  try clear c16
                  try clear c18
                  try clear c19
                  try clear c21
                  try clear c22
                  try clear c24
                  try clear c27
                  try clear c30
                  try clear c33
                  try clear c43
                  try clear c43b0
                  try clear c45
                  try clear p2
                  obtain ⟨kq, x81_35, rfl, HA, HJ35, HO_7, HO_11, HB⟩ := hcut
                  cases kq with
                  | zero => exact absurd HA.out (by simp [laws_FnExactPutAt.j1])
                  | succ kj35 =>
                    have H := HA.out
                    clear HA
                    simp only [laws_FnExactPutAt.j1] at H
                    by_cases c48 : x81_35 = true
                    · subst c48
                      have H1 : (none) = some r := by rw [if_pos rfl] at H; exact H
                      clear H
                      have H := H1
                      clear H1
                      exact absurd H (by simp)
                    · replace c48 := Bool.eq_false_iff.mpr c48
                      subst c48
                      have H1 : ((laws_markByteS.f kj35 t136 1).bind fun bt154 => ((laws_heldByteS.f kj35 bt154.2 1).bind fun t156 => (if t156 < 0 then (none) else (if t156 = bt154.1 then ((laws_toByteS.f kj35 l0).bind fun t157 => ((laws_toByteS.f kj35 l2).bind fun t160 => ((impl_PutAt.f t157 a1 t160).bind fun bt163 => ((laws_eqByteS.f kj35 bt163.1 t126).bind fun t167 => (if t167 = true then (laws_FnExactPutAt.j2 kj35 bt154.2 bt154.1 (bt163.2 != t127)) else (none)))))) else (none))))) = some r := by rw [if_neg (show ¬ (false = true) by decide)] at H; exact H
                      clear H
                      have H := H1
                      clear H1
                      replace H := Option.bind_eq_some_iff.mp H
                      obtain ⟨⟨t154, t155⟩, A490, H⟩ := H
                      replace H : ((laws_heldByteS.f kj35 t155 1).bind fun t156 => (if t156 < 0 then (none) else (if t156 = t154 then ((laws_toByteS.f kj35 l0).bind fun t157 => ((laws_toByteS.f kj35 l2).bind fun t160 => ((impl_PutAt.f t157 a1 t160).bind fun bt163 => ((laws_eqByteS.f kj35 bt163.1 t126).bind fun t167 => (if t167 = true then (laws_FnExactPutAt.j2 kj35 t155 t154 (bt163.2 != t127)) else (none)))))) else (none)))) = some r := H
                      have A49 := Aside0.mk A490
                      clear A490
                      replace H := Option.bind_eq_some_iff.mp H
                      obtain ⟨t156, A500, H⟩ := H
                      replace H : (if t156 < 0 then (none) else (if t156 = t154 then ((laws_toByteS.f kj35 l0).bind fun t157 => ((laws_toByteS.f kj35 l2).bind fun t160 => ((impl_PutAt.f t157 a1 t160).bind fun bt163 => ((laws_eqByteS.f kj35 bt163.1 t126).bind fun t167 => (if t167 = true then (laws_FnExactPutAt.j2 kj35 t155 t154 (bt163.2 != t127)) else (none)))))) else (none))) = some r := H
                      have A50 := Aside0.mk A500
                      clear A500
                      by_cases c51 : t156 < 0
                      · rw [if_pos c51] at H
                        exact absurd H (by simp)
                      · rw [if_neg c51] at H
                        have c51b0 : decide (t156 < 0) = false := decide_eq_false c51
                        clear c51
                        by_cases c52 : t156 = t154
                        · rw [if_pos c52] at H
                          have c52b0 : (t156 == t154) = true := beq_iff_eq.mpr c52
                          have c52b1 : (t156 != t154) = false := bne_eq_false_iff_eq.mpr c52
                          clear c52
                          replace H := Option.bind_eq_some_iff.mp H
                          obtain ⟨t157, A530, H⟩ := H
                          replace H : ((laws_toByteS.f kj35 l2).bind fun t160 => ((impl_PutAt.f t157 a1 t160).bind fun bt163 => ((laws_eqByteS.f kj35 bt163.1 t126).bind fun t167 => (if t167 = true then (laws_FnExactPutAt.j2 kj35 t155 t154 (bt163.2 != t127)) else (none))))) = some r := H
                          have A53 := Aside0.mk A530
                          clear A530
                          replace H := Option.bind_eq_some_iff.mp H
                          obtain ⟨t160, A540, H⟩ := H
                          replace H : ((impl_PutAt.f t157 a1 t160).bind fun bt163 => ((laws_eqByteS.f kj35 bt163.1 t126).bind fun t167 => (if t167 = true then (laws_FnExactPutAt.j2 kj35 t155 t154 (bt163.2 != t127)) else (none)))) = some r := H
                          have A54 := Aside0.mk A540
                          clear A540
                          replace H := Option.bind_eq_some_iff.mp H
                          obtain ⟨⟨t163, t164⟩, A550, H⟩ := H
                          replace H : ((laws_eqByteS.f kj35 t163 t126).bind fun t167 => (if t167 = true then (laws_FnExactPutAt.j2 kj35 t155 t154 (t164 != t127)) else (none))) = some r := H
                          have A55 := Aside0.mk A550
                          clear A550
                          have HC56 := Aside0.mk H
                          clear H
                          obtain ⟨Ao57, co57, eo57⟩ := Kd.R_slice HO_11.out
                          subst eo57
                          go_upto_region 29 with (first | ((with_reducible refine gate_callee (f := 19) rfl ?_); refine goesL_ (some 84) rfl rfl Try.func19 (by kernel_rfl) rfl #[.slice Ao57 t136.length co57, .int .i64 1] rfl (by (try simp only [List.map_toArray, List.map_cons, List.map_nil]); first | done | rfl | (simp only [List.length_drop, List.length_take]; rfl)) ?_; (with_reducible refine (laws_markByteS.calls kj35 (fun k_ => some k_ = (.slice Ao57 t136.length co57 : Value).ownBlock) (.slice Ao57 t136.length co57) t136 1 t154 t155 w _ ?side1 ?side2 A49.out).mono ?_); (case side1 => repeat (first | (with_reducible first | exact HB.out | apply below_alloc | apply pw_below_drewN | apply below_drew1) | exact HB.out)); (case side2 => exact Kd.R_tight rfl HO_11.out); rintro e w58 ⟨rfl, hy0, hb, hkp⟩; refine ⟨_, rfl, ?_⟩; have n0_ := Aside0.mk (Kd.R_mono (ok' := fun k_ => some k_ ≠ (.slice Ao57 t136.length co57 : Value).ownBlock) (Kd.R_keptB (HO_7.out) hkp (fun k_ hk_ hs_ => (hk_) hs_)) (fun k_ hk_ => hk_.1)); have n1_ := Aside0.mk (Kd.R_reok rfl hy0 (fun k_ e_ => HO_11.out.1 k_ e_)); have n2_ := Aside0.mk (hb); clear HO_7; clear HO_11; clear HB; have HO_7 := n0_; have HO_11 := n1_; have HB := n2_; clear n0_ n1_ n2_; (try clear hb); (try clear hkp); (try clear hy0)) | ((with_reducible refine gate_callee (f := 20) rfl ?_); refine goesL_ (some 87) rfl rfl Try.func20 (by kernel_rfl) rfl #[.slice Ao57 t155.length co57, .int .i64 1] rfl (by (try simp only [List.map_toArray, List.map_cons, List.map_nil]); first | done | (rw [show t155.length = t136.length from (Kd.R_reads' HO_11.out).1.symm] <;> rfl) | rfl | (simp only [List.length_drop, List.length_take]; rfl)) ?_; (with_reducible refine (laws_heldByteS.calls kj35 _ _ t155 1 t156 _ ?side1 ?side2 A50.out).mono ?_); (case side1 => repeat (first | exact (Kd.R_reads' HO_11.out).2.2 | (with_reducible refine Kd.C_alloc ?_ _) | (with_reducible refine Kd.C_drewN ?_ _) | (with_reducible refine Kd.C_drew ?_))); (case side2 => rw [show t155.length = t136.length from (Kd.R_reads' HO_11.out).1.symm]; exact (Kd.R_reads' HO_11.out).2.1); rintro e w' ⟨rfl, ⟨nd, rfl⟩⟩; refine ⟨_, rfl, ?_⟩) | ((with_reducible refine gate_callee (f := 16) rfl ?_); refine goesL_ (some 95) rfl rfl Try.func16 (by kernel_rfl) rfl #[.slice A0 l0.length c0] rfl (by (try simp only [List.map_toArray, List.map_cons, List.map_nil]); first | done | rfl | (simp only [List.length_drop, List.length_take]; rfl)) ?_; (with_reducible refine (laws_toByteS.calls kj35 _ _ l0 t157 _ ?side1 ?side2 A53.out).mono ?_); (case side1 => repeat (first | exact (Kd.C_below HR0.out (by repeat (first | (with_reducible first | exact HB.out | apply below_alloc | apply pw_below_drewN | apply below_drew1) | exact HB.out))) | (with_reducible refine Kd.C_alloc ?_ _) | (with_reducible refine Kd.C_drewN ?_ _) | (with_reducible refine Kd.C_drew ?_))); (case side2 => exact HC0.out); rintro e w59 ⟨v158, rfl, ho0, hb⟩; refine ⟨_, rfl, ?_⟩; have n0_ := Aside0.mk (Kd.R_elder' (by (with_reducible repeat (first | apply Kd.R_alloc | apply Kd.R_drewN | apply Kd.R_drew)); exact HO_7.out) (Kd.R_base ho0) hb); have n1_ := Aside0.mk (Kd.R_elder' (by (with_reducible repeat (first | apply Kd.R_alloc | apply Kd.R_drewN | apply Kd.R_drew)); exact HO_11.out) (Kd.R_base ho0) hb); have n2_ := Aside0.mk (Kd.R_lower (Kd.R_new' (Kd.R_new' ho0 (Kd.R_lt (by (with_reducible repeat (first | apply Kd.R_alloc | apply Kd.R_drewN | apply Kd.R_drew)); exact HO_7.out))) (Kd.R_lt (by (with_reducible repeat (first | apply Kd.R_alloc | apply Kd.R_drewN | apply Kd.R_drew)); exact HO_11.out))) (below_size (by repeat (first | (with_reducible first | exact HB.out | apply below_alloc | apply pw_below_drewN | apply below_drew1) | exact HB.out)))); have n3_ := Aside0.mk (below_step (by repeat (first | (with_reducible first | exact HB.out | apply below_alloc | apply pw_below_drewN | apply below_drew1) | exact HB.out)) hb); clear HO_7; clear HO_11; clear HB; have HO_7 := n0_; have HO_11 := n1_; have HO159 := n2_; have HB := n3_; clear n0_ n1_ n2_ n3_; (try clear hb); (try clear hb2); (try clear hk); (try clear hi); (try clear ho0)) | ((with_reducible refine gate_callee (f := 16) rfl ?_); refine goesL_ (some 98) rfl rfl Try.func16 (by kernel_rfl) rfl #[.slice A2 l2.length c2] rfl (by (try simp only [List.map_toArray, List.map_cons, List.map_nil]); first | done | rfl | (simp only [List.length_drop, List.length_take]; rfl)) ?_; (with_reducible refine (laws_toByteS.calls kj35 _ _ l2 t160 _ ?side1 ?side2 A54.out).mono ?_); (case side1 => repeat (first | exact (Kd.C_below HR2.out HB.out) | (with_reducible refine Kd.C_alloc ?_ _) | (with_reducible refine Kd.C_drewN ?_ _) | (with_reducible refine Kd.C_drew ?_))); (case side2 => exact HC2.out); rintro e w60 ⟨v161, rfl, ho0, hb⟩; refine ⟨_, rfl, ?_⟩; have n0_ := Aside0.mk (Kd.R_elder' (by (with_reducible repeat (first | apply Kd.R_alloc | apply Kd.R_drewN | apply Kd.R_drew)); exact HO_7.out) (Kd.R_base ho0) hb); have n1_ := Aside0.mk (Kd.R_elder' (by (with_reducible repeat (first | apply Kd.R_alloc | apply Kd.R_drewN | apply Kd.R_drew)); exact HO_11.out) (Kd.R_base ho0) hb); have n2_ := Aside0.mk (Kd.R_elder' (by (with_reducible repeat (first | apply Kd.R_alloc | apply Kd.R_drewN | apply Kd.R_drew)); exact HO159.out) (Kd.R_base ho0) hb); have n3_ := Aside0.mk (Kd.R_lower (Kd.R_new' (Kd.R_new' (Kd.R_new' ho0 (Kd.R_lt (by (with_reducible repeat (first | apply Kd.R_alloc | apply Kd.R_drewN | apply Kd.R_drew)); exact HO_7.out))) (Kd.R_lt (by (with_reducible repeat (first | apply Kd.R_alloc | apply Kd.R_drewN | apply Kd.R_drew)); exact HO_11.out))) (Kd.R_lt (by (with_reducible repeat (first | apply Kd.R_alloc | apply Kd.R_drewN | apply Kd.R_drew)); exact HO159.out))) (below_size (by repeat (first | (with_reducible first | exact HB.out | apply below_alloc | apply pw_below_drewN | apply below_drew1) | exact HB.out)))); have n4_ := Aside0.mk (below_step (by repeat (first | (with_reducible first | exact HB.out | apply below_alloc | apply pw_below_drewN | apply below_drew1) | exact HB.out)) hb); clear HO_7; clear HO_11; clear HO159; clear HB; have HO_7 := n0_; have HO_11 := n1_; have HO159 := n2_; have HO162 := n3_; have HB := n4_; clear n0_ n1_ n2_ n3_ n4_; (try clear hb); (try clear hb2); (try clear hk); (try clear hi); (try clear ho0); obtain ⟨Ao61, co61, eo61⟩ := Kd.R_slice HO159.out; subst eo61; obtain ⟨Ao62, co62, eo62⟩ := Kd.R_slice HO162.out; subst eo62) | ((with_reducible refine gate_callee (f := 22) rfl ?_); refine goesL_ (some 99) rfl rfl Try.func22 (by kernel_rfl) rfl #[.slice Ao61 t157.length co61, .int .i64 a1, .slice Ao62 t160.length co62] rfl (by (try simp only [List.map_toArray, List.map_cons, List.map_nil]); first | done | rfl | (simp only [List.length_drop, List.length_take]; rfl)) ?_; (with_reducible refine (impl_PutAt.calls _ _ t157 a1 _ _ t160 t163 t164 _ ?side1 ?side2 ?side3 ?side4 A55.out).mono ?_); (case side1 => repeat (first | exact (Kd.R_reads' HO159.out).2.2 | (with_reducible refine Kd.C_alloc ?_ _) | (with_reducible refine Kd.C_drewN ?_ _) | (with_reducible refine Kd.C_drew ?_))); (case side2 => exact (Kd.R_reads' HO159.out).2.1); (case side3 => repeat (first | exact (Kd.R_reads' HO162.out).2.2 | (with_reducible refine Kd.C_alloc ?_ _) | (with_reducible refine Kd.C_drewN ?_ _) | (with_reducible refine Kd.C_drew ?_))); (case side4 => exact (Kd.R_reads' HO162.out).2.1); rintro e w63 ⟨v165, rfl, ho0, hb⟩; refine ⟨_, rfl, ?_⟩; have n0_ := Aside0.mk (Kd.R_elder' (by (with_reducible repeat (first | apply Kd.R_alloc | apply Kd.R_drewN | apply Kd.R_drew)); exact HO_7.out) (Kd.R_base ho0) hb); have n1_ := Aside0.mk (Kd.R_elder' (by (with_reducible repeat (first | apply Kd.R_alloc | apply Kd.R_drewN | apply Kd.R_drew)); exact HO_11.out) (Kd.R_base ho0) hb); have n2_ := Aside0.mk (Kd.R_elder' (by (with_reducible repeat (first | apply Kd.R_alloc | apply Kd.R_drewN | apply Kd.R_drew)); exact HO159.out) (Kd.R_base ho0) hb); have n3_ := Aside0.mk (Kd.R_elder' (by (with_reducible repeat (first | apply Kd.R_alloc | apply Kd.R_drewN | apply Kd.R_drew)); exact HO162.out) (Kd.R_base ho0) hb); have n4_ := Aside0.mk (Kd.R_lower (Kd.R_new' (Kd.R_new' (Kd.R_new' (Kd.R_new' ho0 (Kd.R_lt (by (with_reducible repeat (first | apply Kd.R_alloc | apply Kd.R_drewN | apply Kd.R_drew)); exact HO_7.out))) (Kd.R_lt (by (with_reducible repeat (first | apply Kd.R_alloc | apply Kd.R_drewN | apply Kd.R_drew)); exact HO_11.out))) (Kd.R_lt (by (with_reducible repeat (first | apply Kd.R_alloc | apply Kd.R_drewN | apply Kd.R_drew)); exact HO159.out))) (Kd.R_lt (by (with_reducible repeat (first | apply Kd.R_alloc | apply Kd.R_drewN | apply Kd.R_drew)); exact HO162.out))) (below_size (by repeat (first | (with_reducible first | exact HB.out | apply below_alloc | apply pw_below_drewN | apply below_drew1) | exact HB.out)))); have n5_ := Aside0.mk (below_step (by repeat (first | (with_reducible first | exact HB.out | apply below_alloc | apply pw_below_drewN | apply below_drew1) | exact HB.out)) hb); clear HO_7; clear HO_11; clear HO159; clear HO162; clear HB; have HO_7 := n0_; have HO_11 := n1_; have HO159 := n2_; have HO162 := n3_; have HO166 := n4_; have HB := n5_; clear n0_ n1_ n2_ n3_ n4_ n5_; (try clear hb); (try clear hb2); (try clear hk); (try clear hi); (try clear ho0)))
                          (try simp only [Act.put, List.setIfInBounds_toArray, List.set_cons_zero, List.set_cons_succ])
                          go_cut [110] (fun v110 wc => ∃ (kq : Nat) (x110_55 : Bool), v110 = .bool x110_55 ∧ Aside0 (laws_FnExactPutAt.j2 kq t155 t154 x110_55 = some r) ∧ Aside0 (kq ≤ kj35) ∧ Aside0 (Kd.R (Kd.int .u8) 5 wc w.heap.size (fun _ => True) (.slice Ao57 t136.length co57) t155) ∧ Aside0 (Below w.heap.size w wc))
                          case first =>
                            have H := HC56.out
                            clear HC56
                            replace H := Option.bind_eq_some_iff.mp H
                            obtain ⟨t167, A640, H⟩ := H
                            replace H : (if t167 = true then (laws_FnExactPutAt.j2 kj35 t155 t154 (t164 != t127)) else (none)) = some r := H
                            have A64 := Aside0.mk A640
                            clear A640
                            by_cases c65 : t167 = true
                            · subst c65
                              have H1 : (laws_FnExactPutAt.j2 kj35 t155 t154 (t164 != t127)) = some r := by rw [if_pos rfl] at H; exact H
                              clear H
                              have H := H1
                              clear H1
                              have H' := Aside0.mk H
                              clear H
                              obtain ⟨Ao66, co66, eo66⟩ := Kd.R_slice HO166.out
                              subst eo66
                              obtain ⟨Ao67, co67, eo67⟩ := Kd.R_slice HO_7.out
                              subst eo67
                              go_wp2_with (first | ((with_reducible refine gate_callee (f := 18) rfl ?_); refine goesL_ (some 104) rfl rfl Try.func18 (by kernel_rfl) rfl #[.slice Ao66 t163.length co66, .slice Ao67 t126.length co67] rfl (by (try simp only [List.map_toArray, List.map_cons, List.map_nil]); first | done | rfl | (simp only [List.length_drop, List.length_take]; rfl)) ?_; (with_reducible refine (laws_eqByteS.calls kj35 _ _ t163 _ _ t126 true _ ?side1 ?side2 ?side3 ?side4 A64.out).mono ?_); (case side1 => repeat (first | exact (Kd.R_reads' HO166.out).2.2 | (with_reducible refine Kd.C_alloc ?_ _) | (with_reducible refine Kd.C_drewN ?_ _) | (with_reducible refine Kd.C_drew ?_))); (case side2 => exact (Kd.R_reads' HO166.out).2.1); (case side3 => repeat (first | exact (Kd.R_reads' HO_7.out).2.2 | (with_reducible refine Kd.C_alloc ?_ _) | (with_reducible refine Kd.C_drewN ?_ _) | (with_reducible refine Kd.C_drew ?_))); (case side4 => exact (Kd.R_reads' HO_7.out).2.1); rintro e w' ⟨rfl, ⟨nd, rfl⟩⟩; refine ⟨_, rfl, ?_⟩))
                              go_meet
                              case rel => exact ⟨_, ((t164 != t127)), (by first | rfl | (simp; done) | (simp [*]; done)), H', ⟨by have := HJ11.out; have := HJ35.out; first | omega | exact Nat.le_refl _⟩, ⟨by (with_reducible repeat (first | apply Kd.R_alloc | apply Kd.R_drewN | apply Kd.R_drew)); exact Kd.R_mono HO_11.out (fun _ hk => trivial)⟩, ⟨by repeat (first | (with_reducible first | exact HB.out | apply below_alloc | apply pw_below_drewN | apply below_drew1) | exact HB.out)⟩⟩
                            · replace c65 := Bool.eq_false_iff.mpr c65
                              subst c65
                              have H1 : (none) = some r := by rw [if_neg (show ¬ (false = true) by decide)] at H; exact H
                              clear H
                              have H := H1
                              clear H1
                              exact absurd H (by simp)
                          case rest =>
                            clear HC56
                            try clear c1
                            try clear c2
                            try clear p2
                            try clear c3
                            try clear c4
                            try clear c4b0
                            try clear c4b1
                            try clear c5
                            try clear c5b0
                            try clear c5b1
                            try clear c6
                            try clear c16
                            try clear c18
                            try clear c19
                            try clear c20
                            try clear c21
                            try clear c22
                            try clear c24
                            try clear c27
                            try clear c30
                            try clear c33
                            try clear c43
                            try clear c43b0
                            try clear c45
                            try clear c48
                            try clear c51
                            try clear c51b0
                            try clear c52
                            try clear c52b0
                            try clear c52b1
                            try clear c65
                            try clear p2
                            obtain ⟨kq, x110_55, rfl, HA, HJ55, HO_11, HB⟩ := hcut
                            have hl11_55 := (Kd.R_reads' HO_11.out).1
                            rw [hl11_55] at HO_11
                            (try simp only [hl11_55])
                            cases kq with
                            | zero => exact absurd HA.out (by simp [laws_FnExactPutAt.j2])
                            | succ kj55 =>
                              have H := HA.out
                              clear HA
                              simp only [laws_FnExactPutAt.j2] at H
                              by_cases c68 : x110_55 = true
                              · subst c68
                                have H1 : (none) = some r := by rw [if_pos rfl] at H; exact H
                                clear H
                                have H := H1
                                clear H1
                                exact absurd H (by simp)
                              · replace c68 := Bool.eq_false_iff.mpr c68
                                subst c68
                                have H1 : ((laws_heldByteS.f kj55 t155 1).bind fun t168 => (if t168 < 0 then (none) else (if t168 = t154 then (some true) else (none)))) = some r := by rw [if_neg (show ¬ (false = true) by decide)] at H; exact H
                                clear H
                                have H := H1
                                clear H1
                                replace H := Option.bind_eq_some_iff.mp H
                                obtain ⟨t168, A690, H⟩ := H
                                replace H : (if t168 < 0 then (none) else (if t168 = t154 then (some true) else (none))) = some r := H
                                have A69 := Aside0.mk A690
                                clear A690
                                by_cases c70 : t168 < 0
                                · rw [if_pos c70] at H
                                  exact absurd H (by simp)
                                · rw [if_neg c70] at H
                                  have c70b0 : decide (t168 < 0) = false := decide_eq_false c70
                                  clear c70
                                  by_cases c71 : t168 = t154
                                  · rw [if_pos c71] at H
                                    have c71b0 : (t168 == t154) = true := beq_iff_eq.mpr c71
                                    have c71b1 : (t168 != t154) = false := bne_eq_false_iff_eq.mpr c71
                                    clear c71
                                    obtain rfl := Option.some.inj H
                                    go_wp2_with (first | ((with_reducible refine gate_callee (f := 20) rfl ?_); refine goesL_ (some 113) rfl rfl Try.func20 (by kernel_rfl) rfl #[.slice Ao57 t155.length co57, .int .i64 1] rfl (by (try simp only [List.map_toArray, List.map_cons, List.map_nil]); first | done | rfl | (simp only [List.length_drop, List.length_take]; rfl)) ?_; (with_reducible refine (laws_heldByteS.calls kj55 _ _ t155 1 t168 _ ?side1 ?side2 A69.out).mono ?_); (case side1 => repeat (first | exact (Kd.R_reads' HO_11.out).2.2 | (with_reducible refine Kd.C_alloc ?_ _) | (with_reducible refine Kd.C_drewN ?_ _) | (with_reducible refine Kd.C_drew ?_))); (case side2 => exact (Kd.R_reads' HO_11.out).2.1); rintro e w' ⟨rfl, ⟨nd, rfl⟩⟩; refine ⟨_, rfl, ?_⟩))
                                    go_ret
                                    exact ⟨by first | rfl | (simp [errW_none, errW_some] <;> rfl) | (simp [*, errW_none, errW_some] <;> rfl), by repeat (first | (with_reducible first | exact HB.out | apply below_alloc | apply pw_below_drewN | apply below_drew1) | exact HB.out)⟩
                                  · rw [if_neg c71] at H
                                    exact absurd H (by simp)
                        · rw [if_neg c52] at H
                          exact absurd H (by simp)
              · replace c33 := Bool.eq_false_iff.mpr c33
                subst c33
                have H1 : (none) = some r := by rw [if_neg (show ¬ (false = true) by decide)] at H; exact H
                clear H
                have H := H1
                clear H1
                exact absurd H (by simp)
            · replace c30 := Bool.eq_false_iff.mpr c30
              subst c30
              have H1 : (none) = some r := by rw [if_neg (show ¬ (false = true) by decide)] at H; exact H
              clear H
              have H := H1
              clear H1
              exact absurd H (by simp)

/-- THE ONE PURE STATEMENT of laws_FnExactPutAt: yours. -/
def laws_FnExactPutAt.Pure : Prop := ∀ (l0 : List Int) (a1 : Int) (l2 : List Int), l0.length ≤ maxLen → l0.length * 1 ≤ 140737488351232 → (∀ x ∈ l0, (Lit.int .u8 x).wf = true) → (Lit.int .i64 a1).wf = true → l2.length ≤ maxLen → l2.length * 1 ≤ 140737488351232 → (∀ x ∈ l2, (Lit.int .u8 x).wf = true) → ∃ k, laws_FnExactPutAt.f k l0 a1 l2 = some true
theorem laws_FnExactPutAt.walk (P : laws_FnExactPutAt.Pure) (a0 : Option Addr) (len0 cap0 : Nat) (z0 : List Int) (a1 : Int) (a2 : Option Addr) (len2 cap2 : Nat) (z2 : List Int) (w : World) (w0 : (a0 = none ∧ len0 = 0 ∧ cap0 = 0 ∧ z0 = []) ∨ ∃ x, a0 = some x ∧ len0 ≤ cap0 ∧ cap0 ≤ maxLen ∧ z0.length = cap0 ∧ (∀ i, i < z0.length → w.cell? (x.add i) = some (.int .u8 (z0.getD i 0))) ∧ ∀ n ∈ z0, (Lit.int .u8 n).wf = true) (y0 : len0 * 1 ≤ 140737488351232) (w1 : (Lit.int .i64 a1).wf = true) (w2 : (a2 = none ∧ len2 = 0 ∧ cap2 = 0 ∧ z2 = []) ∨ ∃ x, a2 = some x ∧ len2 ≤ cap2 ∧ cap2 ≤ maxLen ∧ z2.length = cap2 ∧ (∀ i, i < z2.length → w.cell? (x.add i) = some (.int .u8 (z2.getD i 0))) ∧ ∀ n ∈ z2, (Lit.int .u8 n).wf = true) (y2 : len2 * 1 ≤ 140737488351232) :
    Calls Try.prog 5 #[.slice a0 len0 cap0, .int .i64 a1, .slice a2 len2 cap2] w fun e w' => e = .returned (.bool true) ∧ Below w.heap.size w w' := by
  obtain ⟨l0, rfl, hr0, hm0, hw0, hc0⟩ := ReadsInt.ofRowC w0
  obtain ⟨l2, rfl, hr2, hm2, hw2, hc2⟩ := ReadsInt.ofRowC w2
  obtain ⟨k, h⟩ := P l0 a1 l2 hm0 y0 hw0 w1 hm2 y2 hw2
  refine (laws_FnExactPutAt.calls k _ _ l0 a1 _ _ l2 true w (Kd.C_of_reads (d := (0 : Int)) (h1 := fun _ => rfl) hr0) hc0 (Kd.C_of_reads (d := (0 : Int)) (h1 := fun _ => rfl) hr2) hc2 h).mono ?_
  rintro e w' ⟨rfl, hd⟩
  exact ⟨rfl, hd⟩

end Go.Proofs.Ytamelcmioliapaa.QFnExactPutAt
