/- What the functions that the law FnExactTableNew reaches compute, as plain functions, and that the code computes just that (by a program of this session's; the library's functions by hand). No condition. -/
import Derived.Test.YtnloeihhimcblaaQFnExactTableNewx0
import Derived.Test.YtnloeihhimcblaaQFnExactTableNewx3
namespace Go.Proofs.Ytnloeihhimcblaa.QFnExactTableNew
open Go.RowKit Go.Proofs.YtnloeihhimcblaaW.PrintWords Go.Proofs.YtnloeihhimcblaaW.PrintLast Go.Proofs.YtnloeihhimcblaaW.PrintMore
attribute [local go_sem] max2_int min2_int max_two min_two max_three min_three max_four min_four   -- for this text's walks alone
set_option linter.unusedVariables false
set_option linter.unusedSimpArgs false

/-! ### impl_TableNew: function 42 (by hand) -/
/-- Rows of elements of many cells, told by their cells: one behind the other. -/
theorem impl_TableNew.flat_len (sz : Nat) : ∀ (xs : List (List Value)), (∀ x, x ∈ xs → x.length = sz) → xs.flatten.length = xs.length * sz
  | [], _ => by simp
  | x :: t, h => by
    rw [List.flatten_cons, List.length_append, impl_TableNew.flat_len sz t (fun y hy => h y (List.mem_cons_of_mem _ hy)), h x List.mem_cons_self, List.length_cons, Nat.succ_mul]
    omega
theorem impl_TableNew.flat_cut (sz : Nat) : ∀ (xs : List (List Value)) (i : Nat), (∀ x, x ∈ xs → x.length = sz) → xs.flatten.take (i * sz) = (xs.take i).flatten ∧ xs.flatten.drop (i * sz) = (xs.drop i).flatten
  | [], i, _ => by simp
  | x :: t, 0, _ => by simp
  | x :: t, i + 1, h => by
    obtain ⟨h1, h2⟩ := impl_TableNew.flat_cut sz t i (fun y hy => h y (List.mem_cons_of_mem _ hy))
    have hx := h x List.mem_cons_self
    have e1 : (i + 1) * sz = x.length + i * sz := by rw [hx, Nat.succ_mul]; omega
    rw [List.flatten_cons, e1, List.take_append, List.drop_append]
    have e2 : x.length + i * sz - x.length = i * sz := by omega
    rw [e2, h1, h2, List.take_of_length_le (Nat.le_add_right _ _), List.drop_of_length_le (Nat.le_add_right _ _)]
    simp
theorem impl_TableNew.flat_of {sz : Nat} : ∀ {xs : List (List Value)} {inner : List Value}, Reps (fun x cs => cs = x ∧ cs.length = sz ∧ ∀ u ∈ cs, u.oneCell' = true) sz xs inner → inner = xs.flatten ∧ ∀ x, x ∈ xs → x.length = sz ∧ ∀ u ∈ x, u.oneCell' = true
  | [], inner, h => by
    have h1 := h.1
    simp only [List.length_nil, Nat.zero_mul] at h1
    exact ⟨List.eq_nil_of_length_eq_zero h1, fun x hx => by simp at hx⟩
  | x :: t, inner, h => by
    have h0 := h.2 0 x rfl
    rw [Nat.zero_mul, List.drop_zero] at h0
    have hl := h.1
    rw [List.length_cons, Nat.succ_mul] at hl
    have ht : Reps (fun x cs => cs = x ∧ cs.length = sz ∧ ∀ u ∈ cs, u.oneCell' = true) sz t (inner.drop sz) := by
      refine ⟨by rw [List.length_drop]; omega, fun j p hj => ?_⟩
      have h1 := h.2 (j + 1) p (by rw [List.getElem?_cons_succ]; exact hj)
      rw [List.drop_drop, show sz + j * sz = (j + 1) * sz by rw [Nat.succ_mul]; omega]
      exact h1
    obtain ⟨e1, e2⟩ := impl_TableNew.flat_of ht
    obtain ⟨a1, a2, a3⟩ := h0
    refine ⟨?_, fun y hy => ?_⟩
    · rw [List.flatten_cons, ← e1, ← a1, List.take_append_drop]
    · rcases List.mem_cons.mp hy with rfl | hy
      · rw [a1] at a2 a3
        exact ⟨a2, a3⟩
      · exact e2 y hy
theorem impl_TableNew.flat_reps {sz : Nat} {xs : List (List Value)} (h : ∀ x, x ∈ xs → x.length = sz ∧ ∀ u ∈ x, u.oneCell' = true) : Reps (fun x cs => cs = x ∧ cs.length = sz ∧ ∀ u ∈ cs, u.oneCell' = true) sz xs xs.flatten := by
  refine ⟨impl_TableNew.flat_len sz xs (fun x hx => (h x hx).1), fun j p hj => ?_⟩
  obtain ⟨hjl, rfl⟩ := List.getElem?_eq_some_iff.1 hj
  have hm : xs[j] ∈ xs := List.getElem_mem hjl
  obtain ⟨h1, h2⟩ := h _ hm
  have e : (xs.flatten.drop (j * sz)).take sz = xs[j] := by
    rw [(impl_TableNew.flat_cut sz xs j (fun x hx => (h x hx).1)).2, List.drop_eq_getElem_cons hjl, List.flatten_cons, List.take_append, h1, Nat.sub_self, List.take_zero, List.append_nil, List.take_of_length_le (Nat.le_of_eq h1)]
  rw [e]
  exact ⟨rfl, h1, h2⟩
theorem impl_TableNew.blk_own {sz e base : Nat} {w : World} {ok : Nat → Prop} {v : Value} {xs : List (List Value)} (h : (Kd.raw sz).R e w base ok v xs) : w.ownsRow base e sz v xs.length xs.flatten ∧ ∀ x, x ∈ xs → x.length = sz ∧ ∀ u ∈ x, u.oneCell' = true := by
  obtain ⟨_, inner, ho, hr⟩ := h
  obtain ⟨e1, e2⟩ := impl_TableNew.flat_of hr
  rw [e1] at ho
  exact ⟨ho, e2⟩
theorem impl_TableNew.blk_laid {sz e base g : Nat} {W : World} {ok : Nat → Prop} {v : Value} {xs ys : List (List Value)} (HO : (Kd.raw sz).R e W base ok v xs) (hy : ∀ y, y ∈ ys → y.length = sz ∧ ∀ u ∈ y, u.oneCell' = true) (hg : v.ownBlock = some g) (i : Nat) (hfit : i + ys.length ≤ xs.length) :
    (Kd.raw sz).R e (W.setCells g (i * sz) ys.flatten) base ok v (xs.take i ++ (ys ++ xs.drop (i + ys.length))) ∧ W.grownBy (W.setCells g (i * sz) ys.flatten) v.ownBlock ∧ (∀ j, j < ys.length * sz → (W.cell? ⟨g, i * sz + j, none⟩).isSome = true) ∧ (∀ j, j < ys.length * sz → W.frozen? ⟨g, i * sz + j, none⟩ = false) := by
  obtain ⟨hown, hx⟩ := impl_TableNew.blk_own HO
  have hyl := impl_TableNew.flat_len sz ys (fun y h => (hy y h).1)
  have hxl := impl_TableNew.flat_len sz xs (fun y h => (hx y h).1)
  rcases hown.2 with ⟨rfl, hx0⟩ | ⟨g', cap, cur, hv, hb, hh, hnc, hcm, hcs, htake⟩
  · simp [Value.ownBlock] at hg
  obtain rfl : g' = g := by rw [hv] at hg; simpa [Value.ownBlock] using hg
  have hcl : cur.toList.length = cur.size := Array.length_toList
  have hm1 : i * sz + ys.length * sz ≤ xs.length * sz := by rw [← Nat.add_mul]; exact Nat.mul_le_mul_right _ hfit
  have hm2 : xs.length * sz ≤ cap * sz := Nat.mul_le_mul_right _ hnc
  obtain ⟨cur', h3, h4, h5⟩ := setCells_row ys.flatten (i * sz) W cur hh (by rw [hyl, hcs]; omega)
  obtain ⟨s1, s2, s3, s4⟩ := setCells_same g' ys.flatten (i * sz) W
  have hln : (xs.take i ++ (ys ++ xs.drop (i + ys.length))).length = xs.length := by
    rw [List.length_append, List.length_append, List.length_take, List.length_drop]
    omega
  have hall : ∀ x, x ∈ xs.take i ++ (ys ++ xs.drop (i + ys.length)) → x.length = sz ∧ ∀ u ∈ x, u.oneCell' = true := by
    intro x hm
    rcases List.mem_append.mp hm with hm | hm
    · exact hx x (List.mem_of_mem_take hm)
    · rcases List.mem_append.mp hm with hm | hm
      · exact hy x hm
      · exact hx x (List.mem_of_mem_drop hm)
  refine ⟨⟨HO.1, _, ?_, impl_TableNew.flat_reps hall⟩, ⟨s1, s2, s3, by rw [s4]; exact Nat.le_refl _, fun k _ hk => setCells_far _ _ k (fun he => hk (by rw [hv, he]; simp [Value.ownBlock]))⟩, fun j hj => by rw [cell_of_row W g' _ cur e (0, 0) hh]; simp; omega, fun j _ => blk_frozen hh _⟩
  show (W.setCells g' (i * sz) ys.flatten).ownsRow base e sz v (xs.take i ++ (ys ++ xs.drop (i + ys.length))).length (xs.take i ++ (ys ++ xs.drop (i + ys.length))).flatten
  refine ⟨impl_TableNew.flat_len sz _ (fun x h => (hall x h).1), .inr ⟨g', cap, cur', ?_, hb, h3, by rw [hln]; exact hnc, hcm, by rw [h4, hcs], ?_⟩⟩
  · rw [hln]; exact hv
  rw [h5, hln, List.flatten_append, List.flatten_append]
  have ht1 : (xs.take i).flatten = xs.flatten.take (i * sz) := (impl_TableNew.flat_cut sz xs i (fun x h => (hx x h).1)).1.symm
  have hd1 : (xs.drop (i + ys.length)).flatten = xs.flatten.drop ((i + ys.length) * sz) := (impl_TableNew.flat_cut sz xs (i + ys.length) (fun x h => (hx x h).1)).2.symm
  rw [ht1, hd1, ← htake, hyl, List.take_take, Nat.min_eq_left (by omega), List.append_assoc, List.take_append, List.length_take, List.take_of_length_le (by rw [List.length_take]; omega), List.take_append, List.take_of_length_le (l := ys.flatten) (by rw [hyl]; omega), hyl, List.drop_take, Nat.add_mul]
  congr 3
  omega
/-- 'copy' of m elements of sz cells: ALL IS READ BEFORE ANYTHING IS WRITTEN. -/
theorem impl_TableNew.run_copy {P : Program} (w : World) (dT sT ty elem : TypeId) (b o dLen dCap : Nat) (a : Addr) (sLen sCap m sz : Nat) (cs : List Value)
    (hu : P.underlying dT = some (.slice elem)) (hs : (P.info? elem).map (·.size) = some sz) (hm : m = Nat.min sLen dLen) (hn : cs.length = m * sz)
    (hsrc : ∀ j v, cs[j]? = some v → w.cell? (a.add j) = some v) (hc : ∀ j, j < cs.length → (w.cell? ⟨b, o + j, none⟩).isSome = true) (hf : ∀ j, j < cs.length → w.frozen? ⟨b, o + j, none⟩ = false) (h1 : ∀ v ∈ cs, v.oneCell' = true) :
    (Builtin.copy_ #[dT, sT] ty #[.slice (some ⟨b, o, none⟩) dLen dCap, .slice (some a) sLen sCap]).run P w = .ok (goInt m) (w.setCells b o cs) := by
  have hl := run_loadCells_list (P := P) w a cs hsrc
  have hst := run_storeCells_cells (P := P) b o cs 0 w (by simpa using hc) (by simpa using hf) h1
  cases hq : P.info? elem with
  | none => simp [hq] at hs
  | some i =>
    have hi : i.size = sz := by simpa [hq] using hs
    simp [Builtin.copy_, run_underlying hu, Builtin.lenOf, Builtin.firstCells, sizeOf, typeInfo, hq, hi, ← hm, ← hn, hl, hst]
theorem impl_TableNew.run_copy_none {P : Program} (w : World) (dT sT ty elem : TypeId) (d a : Option Addr) (dLen dCap sLen sCap sz : Nat) (hu : P.underlying dT = some (.slice elem)) (hs : (P.info? elem).map (·.size) = some sz) (hn : Nat.min sLen dLen = 0) :
    (Builtin.copy_ #[dT, sT] ty #[.slice d dLen dCap, .slice a sLen sCap]).run P w = .ok (goInt 0) w := by
  cases hq : P.info? elem with
  | none => simp [hq] at hs
  | some i =>
    cases a with
    | none => cases d <;> simp [Builtin.copy_, run_underlying hu, Builtin.lenOf, Builtin.firstCells, sizeOf, typeInfo, hq, hn, storeCells]
    | some a =>
      have hl : Sem.run P (loadCells a 0) w = Result.ok #[] w := run_loadCells_list (P := P) w a [] (fun j v h => by simp at h)
      cases d <;> simp [Builtin.copy_, run_underlying hu, Builtin.lenOf, Builtin.firstCells, sizeOf, typeInfo, hq, hn, hl, storeCells]
theorem impl_TableNew.copyb {P : Program} {w0 W : World} (base : Nat) (t t' e ty : TypeId) (sz : Nat) (hsz0 : 0 < sz) (ht : P.underlying t = some (.slice e)) (hinfo : (P.info? e).map (·.size) = some sz)
    (v : Value) (xs ys : List (List Value)) (hy : ∀ y, y ∈ ys → y.length = sz ∧ ∀ u ∈ y, u.oneCell' = true) (i : Nat) (him : i + ys.length ≤ xs.length) (A : Option Addr) (md c ms : Nat) (hmd : ys.length = Nat.min ms md) (A2 : Option Addr) (c2 : Nat) (ok : Nat → Prop) (hA : 0 < ys.length → ∀ g, v.ownBlock = some g → A = some ⟨g, i * sz, none⟩)
    (HO : (Kd.raw sz).R e W base ok v xs) (HR : (Kd.raw sz).C W A2 ys.length ys) (HB : Below base w0 W) (hbase : base ≤ W.heap.size) :
    ∃ w1, (Builtin.copy_ #[t, t'] ty #[.slice A md c, .slice A2 ms c2]).run P W = .ok (goInt ys.length) w1 ∧ (Kd.raw sz).R e w1 base ok v (xs.take i ++ (ys ++ xs.drop (i + ys.length))) ∧ Below base w0 w1 ∧ W.grownBy w1 v.ownBlock := by
  obtain ⟨hown, hx⟩ := impl_TableNew.blk_own HO
  by_cases hm : ys.length = 0
  · have hr := impl_TableNew.run_copy_none (P := P) W t t' ty e A A2 md c ms c2 sz ht hinfo (by rw [← hmd]; exact hm)
    obtain rfl := List.eq_nil_of_length_eq_zero hm
    exact ⟨W, hr, by simpa using HO, HB, World.grownBy.refl W _⟩
  · rcases hown.2 with ⟨_, hx0⟩ | ⟨g, cap, cur, hv, _⟩
    · omega
    have hg : v.ownBlock = some g := by rw [hv]; simp [Value.ownBlock]
    obtain rfl := hA (by omega) g hg
    obtain ⟨h1, h2, h3, h4⟩ := impl_TableNew.blk_laid HO hy hg i him
    obtain ⟨ad, rfl, hc⟩ := HR.2.2 (by omega)
    have hyl := impl_TableNew.flat_len sz ys (fun y h => (hy y h).1)
    have hr := impl_TableNew.run_copy (P := P) W t t' ty e g (i * sz) md c ad ms c2 ys.length sz ys.flatten ht hinfo hmd hyl
      (fun j u hu => by
        have hj : j < ys.length * sz := by
          rcases Nat.lt_or_ge j (ys.length * sz) with h | h
          · exact h
          · rw [List.getElem?_eq_none (by rw [hyl]; exact h)] at hu
            cases hu
        have hq : j / sz < ys.length := Nat.div_lt_of_lt_mul (by rw [Nat.mul_comm]; exact hj)
        obtain ⟨cs, hl, hK, hcell⟩ := hc (j / sz) ys[j / sz] (List.getElem?_eq_getElem hq)
        obtain ⟨rfl, -, -⟩ := hK
        have hl2 : ys[j / sz].length = sz := hl
        have hr : W.cell? (ad.add (j / sz * sz + j % sz)) = some u := hcell (j % sz) u (by
          have e1 : ys.flatten[j]? = ((ys.flatten.drop (j / sz * sz)).take sz)[j % sz]? := by
            rw [List.getElem?_take_of_lt (Nat.mod_lt _ hsz0), List.getElem?_drop]
            congr 1
            rw [Nat.mul_comm]
            exact (Nat.div_add_mod j sz).symm
          have e2 : (ys.flatten.drop (j / sz * sz)).take sz = ys[j / sz] := by
            rw [(impl_TableNew.flat_cut sz ys (j / sz) (fun x h => (hy x h).1)).2, List.drop_eq_getElem_cons hq, List.flatten_cons, List.take_append, hl2, Nat.sub_self, List.take_zero, List.append_nil, List.take_of_length_le (Nat.le_of_eq hl2)]
          rw [e1, e2] at hu
          exact hu)
        rw [show j / sz * sz + j % sz = j by rw [Nat.mul_comm]; exact Nat.div_add_mod j sz] at hr
        exact hr)
      (fun j hj => h3 j (by rw [hyl] at hj; exact hj)) (fun j hj => h4 j (by rw [hyl] at hj; exact hj)) (by
        intro u hu
        obtain ⟨y, hy1, hy2⟩ := List.mem_flatten.mp hu
        exact (hy y hy1).2 u hy2)
    exact ⟨_, hr, h1, HB.grown h2 hbase (own_base hown), h2⟩
theorem impl_TableNew.copyms {P : Program} {ops : Array Oper} {rest : List Oper} {o : Oper} {a : Act} {Q : Exit → Act → World → Prop} {w0 W : World} (base : Nat) (hgd : o.guard = none) (s x : Operand) (t t' e : TypeId) (sz : Nat) (hsz0 : 0 < sz)
    (ho : o.op = .call { callee := .builtin .copy, args := #[s, x], argTypes := #[t, t'] }) (ht : P.underlying t = some (.slice e)) (hinfo : (P.info? e).map (·.size) = some sz)
    (v : Value) (xs ys : List (List Value)) (hy : ∀ y, y ∈ ys → y.length = sz ∧ ∀ u ∈ y, u.oneCell' = true) (i : Nat) (him : i + ys.length ≤ xs.length) (A : Option Addr) (md c ms : Nat) (hmd : ys.length = Nat.min ms md) (A2 : Option Addr) (c2 : Nat) (ok : Nat → Prop) (hs : a.eval s = .slice A md c) (hx : a.eval x = .slice A2 ms c2) (hA : 0 < ys.length → ∀ g, v.ownBlock = some g → A = some ⟨g, i * sz, none⟩)
    (HO : (Kd.raw sz).R e W base ok v xs) (HR : (Kd.raw sz).C W A2 ys.length ys) (HB : Below base w0 W) (hbase : base ≤ W.heap.size)
    (h : ∀ w1, (Kd.raw sz).R e w1 base ok v (xs.take i ++ (ys ++ xs.drop (i + ys.length))) → Below base w0 w1 → W.grownBy w1 v.ownBlock → wpList P ops Q rest (a.put o.dst (.int .i64 (ys.length : Int))) w1) :
    wpList P ops Q (o :: rest) a W := by
  obtain ⟨w1, hr, h1, h2, h3⟩ := impl_TableNew.copyb (P := P) base t t' e o.type sz hsz0 ht hinfo v xs ys hy i him A md c ms hmd A2 c2 ok hA HO HR HB hbase
  refine wpList_plain hgd fun K hK => ?_
  unfold Oper.wp execOp
  simp only [ho, resolve, invoke, builtin, Sem.run_bind, Sem.run_pure, Result.andThen_ok, List.map_toArray, List.map_cons, List.map_nil, hs, hx, hr]
  exact hK _ _ (h w1 h1 h2 h3)
theorem impl_TableNew.stepms {P : Program} {ops : Array Oper} {o : Oper} {a : Act} {K : Act → World → Prop} {Q : Exit → Act → World → Prop} {E : Prop} {w0 W : World} (base : Nat) (hgd : o.guard = none) (s x : Operand) (t t' e : TypeId) (sz : Nat) (hsz0 : 0 < sz)
    (ho : o.op = .call { callee := .builtin .copy, args := #[s, x], argTypes := #[t, t'] }) (ht : P.underlying t = some (.slice e)) (hinfo : (P.info? e).map (·.size) = some sz)
    (v : Value) (xs ys : List (List Value)) (hy : ∀ y, y ∈ ys → y.length = sz ∧ ∀ u ∈ y, u.oneCell' = true) (i : Nat) (him : i + ys.length ≤ xs.length) (A : Option Addr) (md c ms : Nat) (hmd : ys.length = Nat.min ms md) (A2 : Option Addr) (c2 : Nat) (ok : Nat → Prop) (hs : a.eval s = .slice A md c) (hx : a.eval x = .slice A2 ms c2) (hA : 0 < ys.length → ∀ g, v.ownBlock = some g → A = some ⟨g, i * sz, none⟩)
    (HO : (Kd.raw sz).R e W base ok v xs) (HR : (Kd.raw sz).C W A2 ys.length ys) (HB : Below base w0 W) (hbase : base ≤ W.heap.size)
    (h : ∀ w1, (Kd.raw sz).R e w1 base ok v (xs.take i ++ (ys ++ xs.drop (i + ys.length))) → Below base w0 w1 → W.grownBy w1 v.ownBlock → K (a.put o.dst (.int .i64 (ys.length : Int))) w1) :
    if Region.wanted o (yielded ops a.tmps) = true then Oper.wp P o a W K Q else E := by
  have hw_ : Region.wanted o (yielded ops a.tmps) = true := by simp [Region.wanted, hgd]
  rw [if_pos hw_]
  obtain ⟨w1, hr, h1, h2, h3⟩ := impl_TableNew.copyb (P := P) base t t' e o.type sz hsz0 ht hinfo v xs ys hy i him A md c ms hmd A2 c2 ok hA HO HR HB hbase
  unfold Oper.wp execOp
  simp only [ho, resolve, invoke, builtin, Sem.run_bind, Sem.run_pure, Result.andThen_ok, List.map_toArray, List.map_cons, List.map_nil, hs, hx, hr]
  exact h w1 h1 h2 h3
theorem impl_TableNew.rowrep {α : Type} (x z : α) (c n m : Nat) (h : n + m ≤ c) : (List.replicate n x ++ List.replicate (c - n) z).take n ++ (List.replicate m x ++ (List.replicate n x ++ List.replicate (c - n) z).drop (n + (List.replicate m x).length)) = List.replicate (n + m) x ++ List.replicate (c - (n + m)) z := by
  rw [List.length_replicate, List.take_left' (by simp), List.drop_append, List.drop_of_length_le (by simp), List.nil_append, List.length_replicate, List.drop_replicate, ← List.append_assoc, List.replicate_append_replicate, show n + m - n = m by omega, show c - n - m = c - (n + m) by omega]
/-- Where a row of one's own begins, and where its rest from element i on does. -/
theorem impl_TableNew.head {α : Type} {d : Kd α} {e : Nat} {w : World} {base : Nat} {ok : Nat → Prop} {A : Option Addr} {n c m : Nat} {xs : List α} (h : d.R e w base ok (.slice A n c) xs) (hm : m ≤ xs.length) : 0 < m → ∀ g, (Value.slice A n c).ownBlock = some g → A = some ⟨g, 0, none⟩ := by
  intro h0 g hg
  obtain ⟨g', cap, hv, _, _, cells, _⟩ := Kd.R_form h (by omega)
  injection hv with h1 h2 h3
  subst h1
  obtain rfl : g' = g := by simpa [Value.ownBlock] using hg
  rfl
theorem impl_TableNew.addr {α : Type} {d : Kd α} {e : Nat} {w : World} {base : Nat} {ok : Nat → Prop} {A : Option Addr} {n c : Nat} {xs : List α} (h : d.R e w base ok (.slice A n c) xs) {i m : Nat} (hfit : i + m ≤ xs.length) (sz : Nat) :
    0 < m → ∀ g, (Value.slice A n c).ownBlock = some g → (if c = i then A else A.map (·.add (i * sz))) = some ⟨g, i * sz, none⟩ := by
  intro hm g hg
  obtain ⟨g', cap, hv, _, _, cells, _⟩ := Kd.R_form h (by omega)
  obtain ⟨hn, hc, _⟩ := Kd.R_reads' h
  injection hv with h1 h2 h3
  subst h1
  obtain rfl : g' = g := by simpa [Value.ownBlock] using hg
  rw [if_neg (by omega), Option.map_some, add_plain]
set_option maxHeartbeats 4000000 in
theorem impl_TableNew.mul64 (y : Int) (h0 : 0 ≤ y) (h1 : y ≤ 12) (w : World) : Calls Try.prog 144 #[.int .u64 1, .int .u64 y] w fun e w' => e = .returned (.tuple #[.int .u64 0, .int .u64 y]) ∧ w = w' := by
  have hs : y = 0 ∨ y = 1 ∨ y = 2 ∨ y = 3 ∨ y = 4 ∨ y = 5 ∨ y = 6 ∨ y = 7 ∨ y = 8 ∨ y = 9 ∨ y = 10 ∨ y = 11 ∨ y = 12 := by omega
  clear h0 h1
  rcases hs with rfl | rfl | rfl | rfl | rfl | rfl | rfl | rfl | rfl | rfl | rfl | rfl | rfl
  all_goals
    go_enter Try.func144, Try.ntmps144
    go_wp2
    go_ret2
    exact ⟨rfl, rfl⟩
theorem impl_TableNew.mul (y : Int) (h0 : 0 ≤ y) (h1 : y ≤ 12) (w : World) : Calls Try.prog 124 #[.int .u64 1, .int .u64 y] w fun e w' => e = .returned (.tuple #[.int .u64 0, .int .u64 y]) ∧ w = w' := by
  go_enter Try.func124, Try.ntmps124
  go_wp2_with (go_at_call 144; refine (impl_TableNew.mul64 y h0 h1 _).mono ?_; rintro e w' ⟨rfl, rfl⟩)
  go_ret2
  exact ⟨rfl, rfl⟩
/-- The cells of a fresh node. -/
def impl_TableNew.nd (g : Int) : List Value := [.int .i64 0, .int .i64 g, .int .i64 0, .int .i64 0, .int .i64 0, .int .i64 0, .int .i64 0, .int .i64 0, .slice none 0 0, .int .i64 0, .int .i64 0, .slice none 0 0, .slice none 0 0]
theorem impl_TableNew.nd_ok (g : Int) : (impl_TableNew.nd g).length = 13 ∧ ∀ u ∈ impl_TableNew.nd g, u.oneCell' = true := by
  refine ⟨rfl, fun u hu => ?_⟩
  simp only [impl_TableNew.nd, List.mem_cons, List.not_mem_nil, or_false] at hu
  rcases hu with rfl | rfl | rfl | rfl | rfl | rfl | rfl | rfl | rfl | rfl | rfl | rfl | rfl <;> rfl
theorem impl_TableNew.rawM {sz : Nat} {w : World} {base : Nat} {ok : Nat → Prop} {x cs : List Value} (h : cs = x) (hx : x.length = sz ∧ ∀ u ∈ x, u.oneCell' = true) : (Kd.raw sz).M w base ok x cs := by
  subst h
  exact ⟨rfl, hx⟩
set_option maxHeartbeats 8000000 in
set_option maxRecDepth 100000 in
theorem impl_TableNew.rep (A0 : Option Addr) (c0 : Nat) (g a1 : Int) (w : World) (hr0 : (Kd.raw 13).C w A0 1 [impl_TableNew.nd g]) (hc0 : 1 ≤ c0) (hl : 0 ≤ a1 ∧ a1 ≤ 12) :
    Calls Try.prog 95 #[.slice A0 1 c0, .int .i64 a1] w fun e w' => ∃ v0_ : Value, e = .returned (v0_) ∧ (Kd.raw 13).R 37 w' w.heap.size (fun _ => True) v0_ (List.replicate a1.toNat (impl_TableNew.nd g)) ∧ Below w.heap.size w w' := by
  obtain ⟨h2, h3⟩ := hl
  obtain ⟨x, hx⟩ : ∃ x, x = impl_TableNew.nd g := ⟨_, rfl⟩
  obtain ⟨z, hz⟩ : ∃ z, z = impl_TableNew.nd 0 := ⟨_, rfl⟩
  have hxo : x.length = 13 ∧ ∀ u ∈ x, u.oneCell' = true := by rw [hx]; exact impl_TableNew.nd_ok g
  have hzo : z.length = 13 ∧ ∀ u ∈ z, u.oneCell' = true := by rw [hz]; exact impl_TableNew.nd_ok 0
  rw [← hx] at hr0 ⊢
  obtain ⟨c, rfl⟩ : ∃ c : Nat, a1 = (c : Int) := ⟨a1.toNat, by omega⟩
  have hc12 : c ≤ 12 := by omega
  rw [Int.toNat_natCast]
  have HR0 := Aside0.mk hr0
  have HC0 := Aside0.mk hc0
  have HZ := Aside0.mk hz
  have HXO := Aside0.mk hxo
  have HZO := Aside0.mk hzo
  clear hr0 hc0 hx hz hxo hzo
  have hw1 : IntKind.u64.wrap (c : Int) = (c : Int) := by rw [IntKind.wrap_u64]; omega
  have hw2 : wrap64 (c : Int) = (c : Int) := by unfold wrap64; omega
  have d1 : decide ((c : Int) < 0) = false := decide_eq_false (by omega)
  have d2 : decide ((9223372036854775807 : Int) < (c : Int)) = false := decide_eq_false (by omega)
  obtain ⟨m0, hm0⟩ : ∃ m0, m0 = Nat.min 1 c := ⟨_, rfl⟩
  have hm1 : m0 ≤ 1 ∧ m0 ≤ c ∧ (m0 = 0 → c = 0) := by rw [hm0, show Nat.min 1 c = min 1 c from rfl]; omega
  have hys : [x].take m0 = List.replicate m0 x := by
    rcases Nat.lt_or_ge m0 1 with h | h
    · obtain rfl : m0 = 0 := by omega
      rfl
    · obtain rfl : m0 = 1 := by omega
      rfl
  have hl0 : (List.replicate m0 x).length = m0 := List.length_replicate
  have HY : Aside0 ((Kd.raw 13).C w A0 (List.replicate m0 x).length (List.replicate m0 x)) := ⟨by rw [← hys]; exact Kd.C_take HR0.out hm1.1⟩
  have HYO : Aside0 (∀ m : Nat, ∀ y, y ∈ List.replicate m x → y.length = 13 ∧ ∀ u ∈ y, u.oneCell' = true) := ⟨fun m y hy => by rw [List.eq_of_mem_replicate hy]; exact HXO.out⟩
  have HM := Aside0.mk hm1
  have HM0 := Aside0.mk hm0
  have HH := Aside0.mk (show 0 ≤ (c : Int) ∧ c ≤ 12 from ⟨h2, hc12⟩)
  clear hm1 hm0 hys hl0
  obtain ⟨i, hi, _, hsz, _⟩ := info_parts info37
  go_enter Try.func95, Try.ntmps95
  go_wp2_with (first | (go_at_call 124; refine (impl_TableNew.mul (c : Int) h2 h3 _).mono ?_; rintro e w' ⟨rfl, rfl⟩) | ((with_reducible refine gate_dst (N := 30) rfl ?_); refine Kd.R_make (Kd.raw 13) _ 37 rfl (N := 30) rfl 25 _ _ rfl (c : Int) rfl rfl Try.underlying25 _ 152 info37 rfl (by decide) (by omega) z (ok := fun _ => True) (okp := fun _ => True) (impl_TableNew.rawM HZ.out.symm HZO.out) (fun _ hk => hk) trivial h2 (by rw [Int.toNat_natCast]; omega) (Below.refl _ _) (Nat.le_refl _) ?_; intro v1 w1 ho1 hb1 hg1_ hnew_; clear hg1_ hnew_; rw [Int.toNat_natCast] at ho1; obtain ⟨A1, co1, e1⟩ := Kd.R_slice ho1; rw [List.length_replicate] at e1; subst e1; have HO1 : Aside0 ((Kd.raw 13).R 37 w1 w.heap.size (fun _ => True) (.slice A1 c co1) (List.replicate 0 x ++ List.replicate (c - 0) z)) := ⟨by rw [List.replicate_zero, List.nil_append, Nat.sub_zero]; exact ho1⟩; have HB1 := Aside0.mk hb1; clear ho1 hb1) | ((with_reducible refine gate_builtin (b := .copy) (xs := #[.tmp 31, .tmp 32]) rfl ?_); refine impl_TableNew.copyms (w0 := w) w.heap.size rfl (.tmp 31) (.tmp 32) 25 25 37 13 (by decide) rfl Try.underlying25 (by rw [hi]; simp [hsz]) (.slice A1 c co1) (List.replicate 0 x ++ List.replicate (c - 0) z) (List.replicate m0 x) (HYO.out m0) 0 ?hfit A1 c co1 1 ?hmd A0 c0 (fun _ => True) rfl rfl ?hA HO1.out ?hC HB1.out HB1.out.size ?_; (case hfit => have := HM.out; simp; omega); (case hmd => rw [List.length_replicate]; exact HM0.out); (case hA => rw [Nat.zero_mul]; exact impl_TableNew.head HO1.out (by have := HM.out; simp; omega)); (case hC => exact Kd.C_below HY.out HB1.out); intro w2 ho2 hb2 hg2; rw [impl_TableNew.rowrep x z c 0 m0 (by have := HM.out; omega), Nat.zero_add] at ho2; have HO2 := Aside0.mk ho2; have HB2 := Aside0.mk hb2; clear ho2 hb2 hg2; rw [List.length_replicate]))
  go_loopg [8] 20 (fun kq v8 w' => ∃ n : Nat, v8 = .int .i64 (n : Int) ∧ Aside0 (n ≤ c ∧ c - n < kq ∧ (n = 0 → c = 0)) ∧ Aside0 ((Kd.raw 13).R 37 w' w.heap.size (fun _ => True) (.slice A1 c co1) (List.replicate n x ++ List.replicate (c - n) z)) ∧ Aside0 (Below w.heap.size w w'))
  case atStart => exact ⟨m0, rfl, ⟨by have := HM.out; have := HH.out; omega⟩, HO2, HB2⟩
  case round =>
    obtain ⟨n, rfl, HN, HO, HB⟩ := hrel
    cases gk with
    | zero => exact absurd HN.out.2.1 (by omega)
    | succ k1 =>
      by_cases hn : n < c
      · have c6 : decide ((n : Int) < (c : Int)) = true := decide_eq_true (by omega)
        have hn0 : (0 : Int) ≤ (n : Int) := by omega
        have hn1 : (n : Int) ≤ (c : Int) := by omega
        have hco := (Kd.R_reads' HO.out).2.1
        have hn2 : (n : Int) ≤ (co1 : Int) := by omega
        obtain ⟨m, hm⟩ : ∃ m, m = Nat.min n (c - n) := ⟨_, rfl⟩
        have hmm : m ≤ n ∧ n + m ≤ c ∧ 1 ≤ m := by have := HN.out; rw [hm, show Nat.min n (c - n) = min n (c - n) from rfl]; omega
        have hxs : (List.replicate n x ++ List.replicate (c - n) z).length = c := by rw [List.length_append, List.length_replicate, List.length_replicate]; omega
        obtain ⟨Ac, hAc⟩ : ∃ Ac : Option Addr, (if co1 = n then A1 else A1.map (·.add (n * 13))) = Ac := ⟨_, rfl⟩
        have HC : Aside0 ((Kd.raw 13).C wr A1 (List.replicate m x).length (List.replicate m x)) := ⟨by
          have y := Kd.C_take (m := m) (by have y := (Kd.R_reads' HO.out).2.2; exact y) (by rw [hxs]; omega)
          rw [List.take_append_of_le_length (by rw [List.length_replicate]; exact hmm.1), List.take_replicate, Nat.min_eq_left hmm.1] at y
          exact y⟩
        have HF : Aside0 (n + (List.replicate m x).length ≤ (List.replicate n x ++ List.replicate (c - n) z).length) := ⟨by rw [hxs, List.length_replicate]; exact hmm.2.1⟩
        have HD : Aside0 ((List.replicate m x).length = Nat.min n (c - n)) := ⟨by rw [List.length_replicate]; exact hm⟩
        have HA : Aside0 (0 < (List.replicate m x).length → ∀ g, (Value.slice A1 c co1).ownBlock = some g → Ac = some ⟨g, n * 13, none⟩) := ⟨by rw [← hAc]; exact impl_TableNew.addr HO.out HF.out 13⟩
        have HMM := Aside0.mk hmm
        have hww : wrap64 ((n : Int) + ((List.replicate m x).length : Int)) = ((n + m : Nat) : Int) := by rw [List.length_replicate]; unfold wrap64; omega
        clear hmm hxs hco hm
        go_wp2_with fail
        go_region_law (refine impl_TableNew.stepms (w0 := w) w.heap.size rfl (.tmp 41) (.tmp 44) 25 25 37 13 (by decide) rfl Try.underlying25 (by rw [hi]; simp [hsz]) (.slice A1 c co1) (List.replicate n x ++ List.replicate (c - n) z) (List.replicate m x) (HYO.out m) n HF.out Ac (c - n) (co1 - n) n HD.out A1 co1 (fun _ => True) (by simp [Act.eval, Act.put]) (by simp [Act.eval, Act.put]) HA.out (Kd.R_drew HO.out) (Kd.C_drew HC.out) (below_drew1 HB.out) (below_drew1 HB.out).size ?_; intro w2 ho2 hb2 hg2; rw [impl_TableNew.rowrep x z c n m HMM.out.2.1] at ho2; have HO3 := Aside0.mk ho2; have HB3 := Aside0.mk hb2; clear ho2 hb2 hg2)
        go_wp2
        go_roundg k1
        case measure => have := HN.out; have := HMM.out; omega
        case rel => exact ⟨n + m, (by simp; rw [IntKind.wrap_i64]; have := HMM.out; have := HH.out; omega), ⟨by have := HN.out; have := HMM.out; omega⟩, HO3, HB3⟩
      · have c6 : decide ((n : Int) < (c : Int)) = false := decide_eq_false (by omega)
        have hnc : n = c := by have := HN.out; omega
        subst hnc
        go_wp2
        go_ret
        exact ⟨_, rfl, by have h := HO.out; rw [Nat.sub_self, List.replicate_zero, List.append_nil] at h; exact h, HB.out⟩
theorem impl_TableNew.told {w : World} {base n : Nat} {ok : Nat → Prop} {v : Value} (h : (Kd.raw 13).R 37 w base ok v (List.replicate n (impl_TableNew.nd 1))) : Kd.S k37 37 w base ok v (List.replicate n (⟨0, 1, 0, 0, 0, 0, 0, 0, [], 0, 0, [], []⟩ : S37)) := by
  obtain ⟨ho, hx⟩ := impl_TableNew.blk_own h
  have hl : (List.replicate n (⟨0, 1, 0, 0, 0, 0, 0, 0, [], 0, 0, [], []⟩ : S37)).zipIdx.length = n := by rw [List.length_zipIdx, List.length_replicate]
  rw [List.length_replicate] at ho
  refine ⟨fun _ => 0, h.1, _, by rw [hl]; exact ho, ?_, fun j p hj => ?_⟩
  · rw [hl]
    have := impl_TableNew.flat_len 13 _ (fun x hm => (hx x hm).1)
    rw [List.length_replicate] at this
    exact this
  · obtain ⟨hjl, hjp⟩ := List.getElem?_eq_some_iff.1 hj
    have hjn : j < n := by rw [hl] at hjl; exact hjl
    have hp : p.1 = (⟨0, 1, 0, 0, 0, 0, 0, 0, [], 0, 0, [], []⟩ : S37) := by
      rw [← hjp, List.getElem_zipIdx, List.getElem_replicate]
    have hr := impl_TableNew.flat_reps hx
    have hc := (hr.2 j (impl_TableNew.nd 1) (by rw [List.getElem?_replicate, if_pos hjn])).1
    show k37.M w base _ p.1 (((List.replicate n (impl_TableNew.nd 1)).flatten.drop (j * 13)).take 13)
    rw [hc, hp]
    exact k37_mkM w base _ (⟨0, 1, 0, 0, 0, 0, 0, 0, [], 0, 0, [], []⟩ : S37) (Kd.R_nil _ _ _ _ _) (Kd.R_nil _ _ _ _ _) (Kd.R_nil _ _ _ _ _)
set_option maxHeartbeats 8000000 in
set_option maxRecDepth 100000 in
theorem impl_TableNew.node (a0 : Int) (w : World) : Calls Try.prog 96 #[.int .i64 a0] w fun e w' => e = .returned (.agg #[.int .i64 0, .int .i64 a0, .int .i64 0, .int .i64 0, .int .i64 0, .int .i64 0, .int .i64 0, .int .i64 0, .slice none 0 0, .int .i64 0, .int .i64 0, .slice none 0 0, .slice none 0 0]) ∧ Below w.heap.size w w' := by
  have hu37 := Try.underlying37
  have HB := Aside0.mk (Below.refl w.heap.size w)
  go_enter Try.func96, Try.ntmps96
  go_wp2_with (first | ((with_reducible refine gate_dst (N := 2) rfl ?_); refine box_event ?hg (N := 2) ?hd (cs := #[.int .i64 0, .int .i64 0, .int .i64 0, .int .i64 0, .int .i64 0, .int .i64 0, .int .i64 0, .int .i64 0, .slice none 0 0, .int .i64 0, .int .i64 0, .slice none 0 0, .slice none 0 0]) (t := 37) ?hr ?_; (case hd => rfl); (case hg => rfl); (case hr => first | (go_simp; done) | (go_simp; rfl)); intro gb158 hg w2 hbox hb; have n0_ := Aside0.mk (below_step (by repeat (first | (with_reducible first | exact HB.out | apply below_alloc | apply pw_below_drewN | apply below_drew1) | exact HB.out)) hb); have n1_ := Aside0.mk (hbox); have n2_ := Aside0.mk ((by rw [hg]; exact (below_size (by repeat (first | (with_reducible first | exact HB.out | apply below_alloc | apply pw_below_drewN | apply below_drew1) | exact HB.out))) : w.heap.size ≤ gb158)); have n3_ := Aside0.mk ((by rw [hg]; exact (below_size (by repeat (first | (with_reducible first | exact HB.out | apply below_alloc | apply pw_below_drewN | apply below_drew1) | exact HB.out))) : w.heap.size ≤ gb158)); clear HB; have HB := n0_; have BK158 := n1_; have GW158 := n2_; have GE158 := n3_; clear n0_ n1_ n2_ n3_; clear hb hbox hg; have hcz3_0 : w2.cell? ⟨gb158, 0, none⟩ = some (.int .i64 0) := (blk_cell BK158.out 0).trans rfl; have hcz3_1 : w2.cell? ⟨gb158, 1, none⟩ = some (.int .i64 0) := (blk_cell BK158.out 1).trans rfl; have hcz3_2 : w2.cell? ⟨gb158, 2, none⟩ = some (.int .i64 0) := (blk_cell BK158.out 2).trans rfl; have hcz3_3 : w2.cell? ⟨gb158, 3, none⟩ = some (.int .i64 0) := (blk_cell BK158.out 3).trans rfl; have hcz3_4 : w2.cell? ⟨gb158, 4, none⟩ = some (.int .i64 0) := (blk_cell BK158.out 4).trans rfl; have hcz3_5 : w2.cell? ⟨gb158, 5, none⟩ = some (.int .i64 0) := (blk_cell BK158.out 5).trans rfl; have hcz3_6 : w2.cell? ⟨gb158, 6, none⟩ = some (.int .i64 0) := (blk_cell BK158.out 6).trans rfl; have hcz3_7 : w2.cell? ⟨gb158, 7, none⟩ = some (.int .i64 0) := (blk_cell BK158.out 7).trans rfl; have hcz3_8 : w2.cell? ⟨gb158, 8, none⟩ = some (.slice none 0 0) := (blk_cell BK158.out 8).trans rfl; have hcz3_9 : w2.cell? ⟨gb158, 9, none⟩ = some (.int .i64 0) := (blk_cell BK158.out 9).trans rfl; have hcz3_10 : w2.cell? ⟨gb158, 10, none⟩ = some (.int .i64 0) := (blk_cell BK158.out 10).trans rfl; have hcz3_11 : w2.cell? ⟨gb158, 11, none⟩ = some (.slice none 0 0) := (blk_cell BK158.out 11).trans rfl; have hcz3_12 : w2.cell? ⟨gb158, 12, none⟩ = some (.slice none 0 0) := (blk_cell BK158.out 12).trans rfl; have hfz3_0 := blk_frozen BK158.out 0; have hfz3_1 := blk_frozen BK158.out 1; have hfz3_2 := blk_frozen BK158.out 2; have hfz3_3 := blk_frozen BK158.out 3; have hfz3_4 := blk_frozen BK158.out 4; have hfz3_5 := blk_frozen BK158.out 5; have hfz3_6 := blk_frozen BK158.out 6; have hfz3_7 := blk_frozen BK158.out 7; have hfz3_8 := blk_frozen BK158.out 8; have hfz3_9 := blk_frozen BK158.out 9; have hfz3_10 := blk_frozen BK158.out 10; have hfz3_11 := blk_frozen BK158.out 11; have hfz3_12 := blk_frozen BK158.out 12))
  refine bodyPost_ret (results_cell_row rfl _ _ gb158 37 #[.int .i64 0, .int .i64 a0, .int .i64 0, .int .i64 0, .int .i64 0, .int .i64 0, .int .i64 0, .int .i64 0, .slice none 0 0, .int .i64 0, .int .i64 0, .slice none 0 0, .slice none 0 0] (0, 0) _ rfl (by (with_reducible repeat (first | refine blk_drewN ?_ _ | refine blk_drew ?_ | refine blk_alloc ?_ _)); refine blk_put (cs := #[.int .i64 0, .int .i64 a0, .int .i64 0, .int .i64 0, .int .i64 0, .int .i64 0, .int .i64 0, .int .i64 0, .slice none 0 0, .int .i64 0, .int .i64 0, .slice none 0 0, .slice none 0 0]) ?_ 12 _ rfl; (with_reducible repeat (first | refine blk_drewN ?_ _ | refine blk_drew ?_ | refine blk_alloc ?_ _)); refine blk_put (cs := #[.int .i64 0, .int .i64 a0, .int .i64 0, .int .i64 0, .int .i64 0, .int .i64 0, .int .i64 0, .int .i64 0, .slice none 0 0, .int .i64 0, .int .i64 0, .slice none 0 0, .slice none 0 0]) ?_ 11 _ rfl; (with_reducible repeat (first | refine blk_drewN ?_ _ | refine blk_drew ?_ | refine blk_alloc ?_ _)); refine blk_put (cs := #[.int .i64 0, .int .i64 a0, .int .i64 0, .int .i64 0, .int .i64 0, .int .i64 0, .int .i64 0, .int .i64 0, .slice none 0 0, .int .i64 0, .int .i64 0, .slice none 0 0, .slice none 0 0]) ?_ 10 _ rfl; (with_reducible repeat (first | refine blk_drewN ?_ _ | refine blk_drew ?_ | refine blk_alloc ?_ _)); refine blk_put (cs := #[.int .i64 0, .int .i64 a0, .int .i64 0, .int .i64 0, .int .i64 0, .int .i64 0, .int .i64 0, .int .i64 0, .slice none 0 0, .int .i64 0, .int .i64 0, .slice none 0 0, .slice none 0 0]) ?_ 9 _ rfl; (with_reducible repeat (first | refine blk_drewN ?_ _ | refine blk_drew ?_ | refine blk_alloc ?_ _)); refine blk_put (cs := #[.int .i64 0, .int .i64 a0, .int .i64 0, .int .i64 0, .int .i64 0, .int .i64 0, .int .i64 0, .int .i64 0, .slice none 0 0, .int .i64 0, .int .i64 0, .slice none 0 0, .slice none 0 0]) ?_ 8 _ rfl; (with_reducible repeat (first | refine blk_drewN ?_ _ | refine blk_drew ?_ | refine blk_alloc ?_ _)); refine blk_put (cs := #[.int .i64 0, .int .i64 a0, .int .i64 0, .int .i64 0, .int .i64 0, .int .i64 0, .int .i64 0, .int .i64 0, .slice none 0 0, .int .i64 0, .int .i64 0, .slice none 0 0, .slice none 0 0]) ?_ 7 _ rfl; (with_reducible repeat (first | refine blk_drewN ?_ _ | refine blk_drew ?_ | refine blk_alloc ?_ _)); refine blk_put (cs := #[.int .i64 0, .int .i64 a0, .int .i64 0, .int .i64 0, .int .i64 0, .int .i64 0, .int .i64 0, .int .i64 0, .slice none 0 0, .int .i64 0, .int .i64 0, .slice none 0 0, .slice none 0 0]) ?_ 6 _ rfl; (with_reducible repeat (first | refine blk_drewN ?_ _ | refine blk_drew ?_ | refine blk_alloc ?_ _)); refine blk_put (cs := #[.int .i64 0, .int .i64 a0, .int .i64 0, .int .i64 0, .int .i64 0, .int .i64 0, .int .i64 0, .int .i64 0, .slice none 0 0, .int .i64 0, .int .i64 0, .slice none 0 0, .slice none 0 0]) ?_ 5 _ rfl; (with_reducible repeat (first | refine blk_drewN ?_ _ | refine blk_drew ?_ | refine blk_alloc ?_ _)); refine blk_put (cs := #[.int .i64 0, .int .i64 a0, .int .i64 0, .int .i64 0, .int .i64 0, .int .i64 0, .int .i64 0, .int .i64 0, .slice none 0 0, .int .i64 0, .int .i64 0, .slice none 0 0, .slice none 0 0]) ?_ 4 _ rfl; (with_reducible repeat (first | refine blk_drewN ?_ _ | refine blk_drew ?_ | refine blk_alloc ?_ _)); refine blk_put (cs := #[.int .i64 0, .int .i64 a0, .int .i64 0, .int .i64 0, .int .i64 0, .int .i64 0, .int .i64 0, .int .i64 0, .slice none 0 0, .int .i64 0, .int .i64 0, .slice none 0 0, .slice none 0 0]) ?_ 3 _ rfl; (with_reducible repeat (first | refine blk_drewN ?_ _ | refine blk_drew ?_ | refine blk_alloc ?_ _)); refine blk_put (cs := #[.int .i64 0, .int .i64 a0, .int .i64 0, .int .i64 0, .int .i64 0, .int .i64 0, .int .i64 0, .int .i64 0, .slice none 0 0, .int .i64 0, .int .i64 0, .slice none 0 0, .slice none 0 0]) ?_ 2 _ rfl; (with_reducible repeat (first | refine blk_drewN ?_ _ | refine blk_drew ?_ | refine blk_alloc ?_ _)); refine blk_put (cs := #[.int .i64 0, .int .i64 0, .int .i64 0, .int .i64 0, .int .i64 0, .int .i64 0, .int .i64 0, .int .i64 0, .slice none 0 0, .int .i64 0, .int .i64 0, .slice none 0 0, .slice none 0 0]) ?_ 1 _ rfl; (with_reducible repeat (first | refine blk_drewN ?_ _ | refine blk_drew ?_ | refine blk_alloc ?_ _)); refine blk_put (cs := #[.int .i64 0, .int .i64 0, .int .i64 0, .int .i64 0, .int .i64 0, .int .i64 0, .int .i64 0, .int .i64 0, .slice none 0 0, .int .i64 0, .int .i64 0, .slice none 0 0, .slice none 0 0]) ?_ 0 _ rfl; (with_reducible repeat (first | refine blk_drewN ?_ _ | refine blk_drew ?_ | refine blk_alloc ?_ _)); exact BK158.out) Try.underlying37 rfl (by kernel_rfl)) rfl ?_
  exact ⟨rfl, by repeat (first | (with_reducible first | exact HB.out | apply below_alloc | apply pw_below_drewN | apply below_drew1 | refine below_set ?_ GE158.out) | exact HB.out)⟩
def impl_TableNew.f (a0_0 : Int) (a0_1 : Int) (a0_2 : Int) (a0_3 : Int) (a0_4 : Int) (a0_5 : Int) : Option ((List (S37))) := (impl_ConfOk.f a0_0 a0_1 a0_2 a0_3 a0_4 a0_5).bind fun t160 => (if t160 = true then (if 0 ≤ a0_2 ∧ a0_2 ≤ 12 then some (List.replicate a0_2.toNat (⟨0, 1, 0, 0, 0, 0, 0, 0, [], 0, 0, [], []⟩ : S37)) else none) else (some ([] : List (S37))))
set_option maxHeartbeats 8000000 in
set_option maxRecDepth 100000 in
theorem impl_TableNew.calls (a0_0 : Int) (a0_1 : Int) (a0_2 : Int) (a0_3 : Int) (a0_4 : Int) (a0_5 : Int) (r : List (S37)) (w : World) (h : impl_TableNew.f a0_0 a0_1 a0_2 a0_3 a0_4 a0_5 = some r) :
    Calls Try.prog 42 #[.agg #[.int .i64 a0_0, .int .i64 a0_1, .int .i64 a0_2, .int .i64 a0_3, .int .i64 a0_4, .int .i64 a0_5]] w fun e w' => ∃ v0_ : Value, e = .returned (v0_) ∧ Kd.S k37 37 w' w.heap.size (fun _ => True) v0_ r ∧ Below w.heap.size w w' := by
  have huc := Try.underlying60
  have HB := Aside0.mk (Below.refl w.heap.size w)
  have H : ((impl_ConfOk.f a0_0 a0_1 a0_2 a0_3 a0_4 a0_5).bind fun t160 => (if t160 = true then (if 0 ≤ a0_2 ∧ a0_2 ≤ 12 then some (List.replicate a0_2.toNat (⟨0, 1, 0, 0, 0, 0, 0, 0, [], 0, 0, [], []⟩ : S37)) else none) else (some ([] : List (S37))))) = some r := h
  clear h
  replace H := Option.bind_eq_some_iff.mp H
  obtain ⟨t160, A20, H⟩ := H
  replace H : (if t160 = true then (if 0 ≤ a0_2 ∧ a0_2 ≤ 12 then some (List.replicate a0_2.toNat (⟨0, 1, 0, 0, 0, 0, 0, 0, [], 0, 0, [], []⟩ : S37)) else none) else (some ([] : List (S37)))) = some r := H
  have A2 := Aside0.mk A20
  clear A20
  by_cases c3 : t160 = true
  · subst c3
    have H1 : (if 0 ≤ a0_2 ∧ a0_2 ≤ 12 then some (List.replicate a0_2.toNat (⟨0, 1, 0, 0, 0, 0, 0, 0, [], 0, 0, [], []⟩ : S37)) else none) = some r := by rw [if_pos rfl] at H; exact H
    clear H
    have H := H1
    clear H1
    by_cases c4 : 0 ≤ a0_2 ∧ a0_2 ≤ 12
    rotate_left
    · rw [if_neg c4] at H
      cases H
    rw [if_pos c4] at H
    obtain rfl := Option.some.inj H
    clear H
    have C4 := Aside0.mk c4
    clear c4
    go_enter Try.func42, Try.ntmps42
    try go_wp2_with (first | ((with_reducible refine gate_dst (N := 1) rfl ?_); refine box_event ?hg (N := 1) ?hd (cs := #[.int .i64 a0_0, .int .i64 a0_1, .int .i64 a0_2, .int .i64 a0_3, .int .i64 a0_4, .int .i64 a0_5]) (t := 60) ?hr ?_; (case hd => rfl); (case hg => rfl); (case hr => first | (go_simp; done) | (go_simp; rfl)); intro gb159 hg w6 hbox hb; have n0_ := Aside0.mk (below_step (by repeat (first | (with_reducible first | exact HB.out | apply below_alloc | apply pw_below_drewN | apply below_drew1) | exact HB.out)) hb); have n1_ := Aside0.mk (hbox); have n2_ := Aside0.mk ((by rw [hg]; exact (below_size (by repeat (first | (with_reducible first | exact HB.out | apply below_alloc | apply pw_below_drewN | apply below_drew1) | exact HB.out))) : w.heap.size ≤ gb159)); have n3_ := Aside0.mk ((by rw [hg]; exact (below_size (by repeat (first | (with_reducible first | exact HB.out | apply below_alloc | apply pw_below_drewN | apply below_drew1) | exact HB.out))) : w.heap.size ≤ gb159)); clear HB; have HB := n0_; have BK159 := n1_; have GW159 := n2_; have GE159 := n3_; clear n0_ n1_ n2_ n3_; clear hb hbox hg; have hcz7_0 : w6.cell? ⟨gb159, 0, none⟩ = some (.int .i64 a0_0) := (blk_cell BK159.out 0).trans rfl; have hcz7_1 : w6.cell? ⟨gb159, 1, none⟩ = some (.int .i64 a0_1) := (blk_cell BK159.out 1).trans rfl; have hcz7_2 : w6.cell? ⟨gb159, 2, none⟩ = some (.int .i64 a0_2) := (blk_cell BK159.out 2).trans rfl; have hcz7_3 : w6.cell? ⟨gb159, 3, none⟩ = some (.int .i64 a0_3) := (blk_cell BK159.out 3).trans rfl; have hcz7_4 : w6.cell? ⟨gb159, 4, none⟩ = some (.int .i64 a0_4) := (blk_cell BK159.out 4).trans rfl; have hcz7_5 : w6.cell? ⟨gb159, 5, none⟩ = some (.int .i64 a0_5) := (blk_cell BK159.out 5).trans rfl; have hfz7_0 := blk_frozen BK159.out 0; have hfz7_1 := blk_frozen BK159.out 1; have hfz7_2 := blk_frozen BK159.out 2; have hfz7_3 := blk_frozen BK159.out 3; have hfz7_4 := blk_frozen BK159.out 4; have hfz7_5 := blk_frozen BK159.out 5) | ((with_reducible refine gate_callee (f := 94) rfl ?_); refine goesL_ (some 4) rfl rfl Try.func94 (by kernel_rfl) rfl #[.agg #[.int .i64 a0_0, .int .i64 a0_1, .int .i64 a0_2, .int .i64 a0_3, .int .i64 a0_4, .int .i64 a0_5]] rfl (by (try simp only [List.map_toArray, List.map_cons, List.map_nil]); first | done | rfl | (simp only [List.length_drop, List.length_take]; rfl)) ?_; (with_reducible refine (impl_ConfOk.calls a0_0 a0_1 a0_2 a0_3 a0_4 a0_5 true _ A2.out).mono ?_); rintro e w8 ⟨rfl, hb⟩; refine ⟨_, rfl, ?_⟩; have n0_ := Aside0.mk (blk_below (g := gb159) (o := .cells #[.int .i64 a0_0, .int .i64 a0_1, .int .i64 a0_2, .int .i64 a0_3, .int .i64 a0_4, .int .i64 a0_5] 60 (0, 0)) (by (with_reducible repeat (first | refine blk_drewN ?_ _ | refine blk_drew ?_ | refine blk_alloc ?_ _)); exact BK159.out) hb); have n1_ := Aside0.mk (below_step (by repeat (first | (with_reducible first | exact HB.out | apply below_alloc | apply pw_below_drewN | apply below_drew1 | refine below_set ?_ GE159.out) | exact HB.out)) hb); clear BK159; clear HB; have BK159 := n0_; have HB := n1_; clear n0_ n1_; (try clear hb); (try clear hb2); (try clear hk); (try clear hi)))
    (try (rw [drewN_self w8]; generalize hq_ : World.drewN w8 _ = w8; have hh_ := congrArg World.heap hq_; dsimp only [World.drewN] at hh_; have zb_ : Below w.heap.size w w8 := (by rw [← hq_]; exact pw_below_drewN HB.out _); have z_ := BK159.out; rw [hh_] at z_; clear BK159; have BK159 := Aside0.mk z_; clear z_; clear HB; have HB := Aside0.mk zb_; clear zb_ hh_ hq_))
    have n0_ := Aside0.mk (blk_drew BK159.out)
    have n1_ := Aside0.mk (below_drew1 HB.out)
    clear BK159
    clear HB
    have BK159 := n0_
    have HB := n1_
    clear n0_ n1_
    refine start_ (n := 6) (S := fun w' => w'.cell? ⟨gb159, 0, none⟩ = some (.int .i64 a0_0) ∧ w'.cell? ⟨gb159, 1, none⟩ = some (.int .i64 a0_1) ∧ w'.cell? ⟨gb159, 2, none⟩ = some (.int .i64 a0_2) ∧ w'.cell? ⟨gb159, 3, none⟩ = some (.int .i64 a0_3) ∧ w'.cell? ⟨gb159, 4, none⟩ = some (.int .i64 a0_4) ∧ w'.cell? ⟨gb159, 5, none⟩ = some (.int .i64 a0_5)) (ds := []) #[false, false, false, false, false, false] (by kernel_rfl) rfl rfl ⟨(blk_cell BK159.out 0).trans rfl, (blk_cell BK159.out 1).trans rfl, (blk_cell BK159.out 2).trans rfl, (blk_cell BK159.out 3).trans rfl, (blk_cell BK159.out 4).trans rfl, (blk_cell BK159.out 5).trans rfl⟩ (fun hHeld => ?_)
    generalize w8.drew = w9 at BK159 HB hHeld ⊢
    refine pure_ (i := 2) (N := some 8) (v := ?_) (a' := ?_) #[false, false, true, false, false, false] rfl rfl (by kernel_rfl) (fun _ _ _ h => h) (Or.inl ⟨by rfl, ?_⟩) ?_ ?_
    rotate_left
    · intro w'
      go_simp
      with_reducible rfl
    rotate_left
    · simp only [Act.put, List.setIfInBounds_toArray, List.set_cons_zero, List.set_cons_succ, i64_w, i32_w]
      rfl
    refine take_ (i := 3) (N := some 9) (v := ?_) (a' := ?_) #[false, false, true, true, false, false] rfl rfl (by kernel_rfl) (fun _ _ _ h => h) (Or.inl ⟨by rfl, ?_⟩) hHeld ?_ ?_
    rotate_left
    · rintro w' ⟨s0, s1, s2, s3, s4, s5⟩
      go_simp
      with_reducible rfl
    rotate_left
    · simp only [Act.put, List.setIfInBounds_toArray, List.set_cons_zero, List.set_cons_succ, i64_w, i32_w]
      rfl
    refine one_ (i := 0) (N := some 6) #[true, false, true, true, false, false] rfl rfl (by kernel_rfl) (by decide) (fun K hK => ?_)
    refine goes_ Try.func96 (by kernel_rfl) rfl #[.int .i64 1] (by rfl) rfl rfl (by (try simp only [List.map_toArray, List.map_cons, List.map_nil]); first | done | rfl | (simp only [List.length_drop, List.length_take]; rfl)) ?_
    refine (impl_TableNew.node 1 _).mono ?_
    rintro e w10 ⟨rfl, hb⟩
    refine ⟨_, rfl, ?_⟩
    have n0_ := Aside0.mk (blk_below (g := gb159) (o := .cells #[.int .i64 a0_0, .int .i64 a0_1, .int .i64 a0_2, .int .i64 a0_3, .int .i64 a0_4, .int .i64 a0_5] 60 (0, 0)) (by (with_reducible repeat (first | refine blk_drewN ?_ _ | refine blk_drew ?_ | refine blk_alloc ?_ _)); exact BK159.out) hb)
    have n1_ := Aside0.mk (below_step (by repeat (first | (with_reducible first | exact HB.out | apply below_alloc | apply pw_below_drewN | apply below_drew1 | refine below_set ?_ GE159.out) | exact HB.out)) hb)
    clear BK159
    clear HB
    have BK159 := n0_
    have HB := n1_
    clear n0_ n1_
    (try clear hb)
    refine hK.out _ _ (by first | exact ⟨(blk_cell BK159.out 0).trans rfl, (blk_cell BK159.out 1).trans rfl, (blk_cell BK159.out 2).trans rfl, (blk_cell BK159.out 3).trans rfl, (blk_cell BK159.out 4).trans rfl, (blk_cell BK159.out 5).trans rfl⟩ | exact hHeld) (fun hHeld => ?_)
    clear hK K
    refine norm_ (a' := ?_) ?_ ?_
    rotate_left
    · show Act.put _ (some 6) _ = _
      simp only [Act.put, List.setIfInBounds_toArray, List.set_cons_zero, List.set_cons_succ, i64_w, i32_w]
      rfl
    refine one_ (i := 1) (N := some 7) #[true, true, true, true, false, false] rfl rfl (by kernel_rfl) (by decide) (fun K hK => ?_)
    refine Kd.R_lit_step (Kd.raw 13) _ 37 ?hg (N := 7) ?hd (xs := [impl_TableNew.nd 1]) (inner := [.int .i64 0, .int .i64 1, .int .i64 0, .int .i64 0, .int .i64 0, .int .i64 0, .int .i64 0, .int .i64 0, .slice none 0 0, .int .i64 0, .int .i64 0, .slice none 0 0, .slice none 0 0]) (ok := fun _ => True) (okp := fun _ => True) ?hr ?hp (fun _ hk => hk) trivial (Below.refl _ _) (Nat.le_refl _) (by simp) ?_; (case hd => rfl); (case hg => rfl); (case hr => first | (go_simp; done) | (go_simp; rfl)); (case hp => exact (by have q := impl_TableNew.flat_reps (sz := 13) (xs := [impl_TableNew.nd 1]) (fun x hx => by rw [List.mem_singleton.mp hx]; exact impl_TableNew.nd_ok 1); rw [List.flatten_cons, List.flatten_nil, List.append_nil] at q; exact q))
    intro v181 w14 ho15 hb hg_ hnew_
    clear hg_ hnew_
    have n0_ := Aside0.mk (Kd.R_lower ho15 (below_size (by repeat (first | (with_reducible first | exact HB.out | apply below_alloc | apply pw_below_drewN | apply below_drew1 | refine below_set ?_ GE159.out) | exact HB.out))))
    have n1_ := Aside0.mk (blk_below (g := gb159) (o := .cells #[.int .i64 a0_0, .int .i64 a0_1, .int .i64 a0_2, .int .i64 a0_3, .int .i64 a0_4, .int .i64 a0_5] 60 (0, 0)) (by (with_reducible repeat (first | refine blk_drewN ?_ _ | refine blk_drew ?_ | refine blk_alloc ?_ _)); exact BK159.out) hb)
    have n2_ := Aside0.mk (below_step (by repeat (first | (with_reducible first | exact HB.out | apply below_alloc | apply pw_below_drewN | apply below_drew1 | refine below_set ?_ GE159.out) | exact HB.out)) hb)
    clear BK159
    clear HB
    have HO182 := n0_
    have BK159 := n1_
    have HB := n2_
    clear n0_ n1_ n2_
    clear hb ho15
    obtain ⟨Ao16, co16, eo16⟩ := Kd.R_slice HO182.out
    replace eo16 : v181 = .slice Ao16 1 co16 := eo16
    subst eo16
    refine hK.out _ _ (by first | exact ⟨(blk_cell BK159.out 0).trans rfl, (blk_cell BK159.out 1).trans rfl, (blk_cell BK159.out 2).trans rfl, (blk_cell BK159.out 3).trans rfl, (blk_cell BK159.out 4).trans rfl, (blk_cell BK159.out 5).trans rfl⟩ | exact hHeld) (fun hHeld => ?_)
    clear hK K
    refine norm_ (a' := ?_) ?_ ?_
    rotate_left
    · show Act.put _ (some 7) _ = _
      simp only [Act.put, List.setIfInBounds_toArray, List.set_cons_zero, List.set_cons_succ, i64_w, i32_w]
      rfl
    refine one_ (i := 4) (N := some 10) #[true, true, true, true, true, false] rfl rfl (by kernel_rfl) (by decide) (fun K hK => ?_)
    refine goes_ Try.func95 (by kernel_rfl) rfl #[.slice Ao16 1 co16, .int .i64 a0_2] (by rfl) rfl rfl (by (try simp only [List.map_toArray, List.map_cons, List.map_nil]); first | done | rfl | (simp only [List.length_drop, List.length_take]; rfl)) ?_
    refine (impl_TableNew.rep Ao16 co16 1 a0_2 _ ?side1 ?side2 C4.out).mono ?_
    (case side1 => repeat (first | exact (Kd.R_reads' HO182.out).2.2 | (with_reducible refine Kd.C_alloc ?_ _) | (with_reducible refine Kd.C_drewN ?_ _) | (with_reducible refine Kd.C_drew ?_)))
    (case side2 => exact (Kd.R_reads' HO182.out).2.1)
    rintro e w17 ⟨v184, rfl, ho0, hb⟩
    refine ⟨_, rfl, ?_⟩
    have n1_ := Aside0.mk (Kd.R_lower ho0 (below_size (by repeat (first | (with_reducible first | exact HB.out | apply below_alloc | apply pw_below_drewN | apply below_drew1 | refine below_set ?_ GE159.out) | exact HB.out))))
    have n2_ := Aside0.mk (blk_below (g := gb159) (o := .cells #[.int .i64 a0_0, .int .i64 a0_1, .int .i64 a0_2, .int .i64 a0_3, .int .i64 a0_4, .int .i64 a0_5] 60 (0, 0)) (by (with_reducible repeat (first | refine blk_drewN ?_ _ | refine blk_drew ?_ | refine blk_alloc ?_ _)); exact BK159.out) hb)
    have n3_ := Aside0.mk (below_step (by repeat (first | (with_reducible first | exact HB.out | apply below_alloc | apply pw_below_drewN | apply below_drew1 | refine below_set ?_ GE159.out) | exact HB.out)) hb)
    clear HO182
    clear BK159
    clear HB
    have HO185 := n1_
    have BK159 := n2_
    have HB := n3_
    clear n1_ n2_ n3_
    (try clear hb)
    (try clear ho0)
    refine hK.out _ _ (by first | exact ⟨(blk_cell BK159.out 0).trans rfl, (blk_cell BK159.out 1).trans rfl, (blk_cell BK159.out 2).trans rfl, (blk_cell BK159.out 3).trans rfl, (blk_cell BK159.out 4).trans rfl, (blk_cell BK159.out 5).trans rfl⟩ | exact hHeld) (fun hHeld => ?_)
    clear hK K
    refine norm_ (a' := ?_) ?_ ?_
    rotate_left
    · show Act.put _ (some 10) _ = _
      simp only [Act.put, List.setIfInBounds_toArray, List.set_cons_zero, List.set_cons_succ, i64_w, i32_w]
      rfl
    refine pure_ (i := 5) (N := some 2) (v := ?_) (a' := ?_) #[true, true, true, true, true, true] rfl rfl (by kernel_rfl) (fun _ _ _ h => h) (Or.inl ⟨by rfl, ?_⟩) ?_ ?_
    rotate_left
    · intro w'
      go_simp
      with_reducible rfl
    rotate_left
    · simp only [Act.put, List.setIfInBounds_toArray, List.set_cons_zero, List.set_cons_succ, i64_w, i32_w]
      rfl
    refine done_ (by kernel_rfl) ?_
    try go_wp2
    go_ret
    exact ⟨_, by first | rfl | (simp [errW_none, errW_some] <;> rfl) | (simp [*, errW_none, errW_some] <;> rfl), by (with_reducible repeat (first | apply Kd.S_alloc | apply Kd.S_drewN | apply Kd.S_drew)); exact impl_TableNew.told HO185.out, by repeat (first | (with_reducible first | exact HB.out | apply below_alloc | apply pw_below_drewN | apply below_drew1 | refine below_set ?_ GE159.out) | exact HB.out)⟩
  · replace c3 := Bool.eq_false_iff.mpr c3
    subst c3
    have H1 : (some ([] : List (S37))) = some r := by rw [if_neg (show ¬ (false = true) by decide)] at H; exact H
    clear H
    have H := H1
    clear H1
    obtain rfl := Option.some.inj H
    go_enter Try.func42, Try.ntmps42
    go_wp2_with (first | ((with_reducible refine gate_dst (N := 1) rfl ?_); refine box_event ?hg (N := 1) ?hd (cs := #[.int .i64 a0_0, .int .i64 a0_1, .int .i64 a0_2, .int .i64 a0_3, .int .i64 a0_4, .int .i64 a0_5]) (t := 60) ?hr ?_; (case hd => rfl); (case hg => rfl); (case hr => first | (go_simp; done) | (go_simp; rfl)); intro gb159 hg w18 hbox hb; have n0_ := Aside0.mk (below_step (by repeat (first | (with_reducible first | exact HB.out | apply below_alloc | apply pw_below_drewN | apply below_drew1) | exact HB.out)) hb); have n1_ := Aside0.mk (hbox); have n2_ := Aside0.mk ((by rw [hg]; exact (below_size (by repeat (first | (with_reducible first | exact HB.out | apply below_alloc | apply pw_below_drewN | apply below_drew1) | exact HB.out))) : w.heap.size ≤ gb159)); have n3_ := Aside0.mk ((by rw [hg]; exact (below_size (by repeat (first | (with_reducible first | exact HB.out | apply below_alloc | apply pw_below_drewN | apply below_drew1) | exact HB.out))) : w.heap.size ≤ gb159)); clear HB; have HB := n0_; have BK159 := n1_; have GW159 := n2_; have GE159 := n3_; clear n0_ n1_ n2_ n3_; clear hb hbox hg; have hcz19_0 : w18.cell? ⟨gb159, 0, none⟩ = some (.int .i64 a0_0) := (blk_cell BK159.out 0).trans rfl; have hcz19_1 : w18.cell? ⟨gb159, 1, none⟩ = some (.int .i64 a0_1) := (blk_cell BK159.out 1).trans rfl; have hcz19_2 : w18.cell? ⟨gb159, 2, none⟩ = some (.int .i64 a0_2) := (blk_cell BK159.out 2).trans rfl; have hcz19_3 : w18.cell? ⟨gb159, 3, none⟩ = some (.int .i64 a0_3) := (blk_cell BK159.out 3).trans rfl; have hcz19_4 : w18.cell? ⟨gb159, 4, none⟩ = some (.int .i64 a0_4) := (blk_cell BK159.out 4).trans rfl; have hcz19_5 : w18.cell? ⟨gb159, 5, none⟩ = some (.int .i64 a0_5) := (blk_cell BK159.out 5).trans rfl; have hfz19_0 := blk_frozen BK159.out 0; have hfz19_1 := blk_frozen BK159.out 1; have hfz19_2 := blk_frozen BK159.out 2; have hfz19_3 := blk_frozen BK159.out 3; have hfz19_4 := blk_frozen BK159.out 4; have hfz19_5 := blk_frozen BK159.out 5) | ((with_reducible refine gate_callee (f := 94) rfl ?_); refine goesL_ (some 4) rfl rfl Try.func94 (by kernel_rfl) rfl #[.agg #[.int .i64 a0_0, .int .i64 a0_1, .int .i64 a0_2, .int .i64 a0_3, .int .i64 a0_4, .int .i64 a0_5]] rfl (by (try simp only [List.map_toArray, List.map_cons, List.map_nil]); first | done | rfl | (simp only [List.length_drop, List.length_take]; rfl)) ?_; (with_reducible refine (impl_ConfOk.calls a0_0 a0_1 a0_2 a0_3 a0_4 a0_5 false _ A2.out).mono ?_); rintro e w20 ⟨rfl, hb⟩; refine ⟨_, rfl, ?_⟩; have n0_ := Aside0.mk (blk_below (g := gb159) (o := .cells #[.int .i64 a0_0, .int .i64 a0_1, .int .i64 a0_2, .int .i64 a0_3, .int .i64 a0_4, .int .i64 a0_5] 60 (0, 0)) (by (with_reducible repeat (first | refine blk_drewN ?_ _ | refine blk_drew ?_ | refine blk_alloc ?_ _)); exact BK159.out) hb); have n1_ := Aside0.mk (below_step (by repeat (first | (with_reducible first | exact HB.out | apply below_alloc | apply pw_below_drewN | apply below_drew1 | refine below_set ?_ GE159.out) | exact HB.out)) hb); clear BK159; clear HB; have BK159 := n0_; have HB := n1_; clear n0_ n1_; (try clear hb); (try clear hb2); (try clear hk); (try clear hi)))
    go_ret
    exact ⟨_, by first | rfl | (simp [errW_none, errW_some] <;> rfl) | (simp [*, errW_none, errW_some] <;> rfl), by first | exact Kd.S_nil _ _ _ _ _ | exact Kd.N_nil _ _ _ _ _ | exact Kd.V_nil _ _ _ _ _ | exact Kd.Q_nil _ _ _ _ _ | exact Kd.R_nil _ _ _ _ _, by repeat (first | (with_reducible first | exact HB.out | apply below_alloc | apply pw_below_drewN | apply below_drew1 | refine below_set ?_ GE159.out) | exact HB.out)⟩

/-! ### laws_heldIntS: function 39 -/
def laws_heldIntS.l0 : Nat → List Int → Int → Int → Option (Int)
  | 0, _, _, _ => none
  | k + 1, x0, x1, x5 => if x5 < (x0.length : Int) then (if 0 ≤ x5 then (if (rd x0 x5) = x1 then (laws_heldIntS.l0 k x0 (wrap64 (x1 + 1)) (wrap64 (x5 + 1))) else (some (-1))) else (none)) else (some x1)
def laws_heldIntS.f (k : Nat) (l0 : List Int) (a1 : Int) : Option (Int) := laws_heldIntS.l0 k l0 a1 0
theorem laws_heldIntS.mono_l : ∀ k, (∀ y0 y1 y2, LeO (laws_heldIntS.l0 k y0 y1 y2) (laws_heldIntS.l0 (k + 1) y0 y1 y2))
  | 0 => fun _ _ _ r h => by simp [laws_heldIntS.l0] at h
  | k + 1 => by
    have ih0 := laws_heldIntS.mono_l k
    · intro y0 y1 y2
      unfold laws_heldIntS.l0
      repeat' first
      | (with_reducible exact ih0 _ _ _)
      | (with_reducible exact LeO.refl _)
      | (with_reducible exact LeO.none _)
      | (with_reducible refine LeO.ite ?_ ?_)
      | (with_reducible refine LeO.bind ?_ (fun _ => ?_))
      | exact ih0 _ _ _
      | exact LeO.none _
      | refine LeO.ite ?_ ?_
      | refine LeO.bind ?_ (fun _ => ?_)
theorem laws_heldIntS.mono : ∀ a0 a1 k, LeO (laws_heldIntS.f k a0 a1) (laws_heldIntS.f (k + 1) a0 a1) := by
  intro a0 a1 k
  have ih0 := laws_heldIntS.mono_l k
  unfold laws_heldIntS.f
  repeat' first
      | (with_reducible exact ih0 _ _ _)
      | (with_reducible exact LeO.refl _)
      | (with_reducible exact LeO.none _)
      | (with_reducible refine LeO.ite ?_ ?_)
      | (with_reducible refine LeO.bind ?_ (fun _ => ?_))
      | exact ih0 _ _ _
      | exact LeO.none _
      | refine LeO.ite ?_ ?_
      | refine LeO.bind ?_ (fun _ => ?_)
set_option maxHeartbeats 8000000 in
set_option maxRecDepth 100000 in
theorem laws_heldIntS.calls (k : Nat) (A0 : Option Addr) (c0 : Nat) (l0 : List Int) (a1 : Int) (r : Int) (w : World) (hr0 : Kd.C (Kd.int .i64) w A0 l0.length l0) (hc0 : l0.length ≤ c0) (h : laws_heldIntS.f k l0 a1 = some r) :
    Calls Try.prog 39 #[.slice A0 l0.length c0, .int .i64 a1] w fun e w' => e = .returned (.int .i64 r) ∧ Drawn0 w w' := by
  have HR0 := Aside0.mk hr0
  have HC0 := Aside0.mk hc0
  clear hr0 hc0
  have H : (laws_heldIntS.l0 k l0 a1 0) = some r := h
  clear h
  have H' := Aside0.mk H
  clear H
  go_enter Try.func39, Try.ntmps39
  go_wp2
  go_loopg [1, 5] k (fun kq v1 v5 w' => ∃ (x1_1 : Int) (x5_1 : Int), v1 = .int .i64 x1_1 ∧ v5 = .int .i64 x5_1 ∧ Aside0 (laws_heldIntS.l0 kq l0 x1_1 x5_1 = some r) ∧ Aside0 (kq ≤ k) ∧ Drawn0 w w')
  case atStart => exact ⟨(a1), (0), (by first | rfl | (simp; done) | (simp [*]; done)), (by first | rfl | (simp; done) | (simp [*]; done)), H', ⟨Nat.le_refl _⟩, by repeat (first | exact Drawn0.refl _ | apply Drawn0.step)⟩
  case round =>
    clear H'
    try clear p2
    obtain ⟨x1_1, x5_1, rfl, rfl, HA, HK1, ⟨m1, rfl⟩⟩ := hrel
    cases gk with
    | zero => exact absurd HA.out (by simp [laws_heldIntS.l0])
    | succ k1 =>
      have H := HA.out
      clear HA
      simp only [laws_heldIntS.l0] at H
      by_cases c3 : x5_1 < (l0.length : Int)
      · rw [if_pos c3] at H
        have c3b0 : decide (x5_1 < (l0.length : Int)) = true := decide_eq_true c3
        clear c3
        by_cases c4 : 0 ≤ x5_1
        · rw [if_pos c4] at H
          have c4b0 : decide (0 ≤ x5_1) = true := decide_eq_true c4
          clear c4
          by_cases c5 : (rd l0 x5_1) = x1_1
          · rw [if_pos c5] at H
            have c5b0 : ((rd l0 x5_1) == x1_1) = true := beq_iff_eq.mpr c5
            have c5b1 : ((rd l0 x5_1) != x1_1) = false := bne_eq_false_iff_eq.mpr c5
            clear c5
            have H' := Aside0.mk H
            clear H
            have p165 : 0 ≤ (x5_1 : Int) := of_decide_eq_true (by first | (with_reducible assumption) | assumption)
            have q165 : x5_1 < (l0.length : Int) := of_decide_eq_true (by first | (with_reducible assumption) | assumption)
            obtain ⟨ad165, e165, hx165_0⟩ := Kd.at_int HR0.out x5_1 p165 q165
            cases e165
            replace p165 := eq_true p165
            replace q165 := eq_true q165
            go_wp2
            go_roundg k1
            case measure => have := HK1.out; omega
            case rel => exact ⟨(wrap64 (x1_1 + 1)), (wrap64 (x5_1 + 1)), (by first | rfl | (simp; done) | (simp [*]; done)), (by first | rfl | (simp; done) | (simp [*]; done)), H', ⟨by have := HK1.out; omega⟩, by repeat (first | exact Drawn0.refl _ | apply Drawn0.step)⟩
          · rw [if_neg c5] at H
            have c5b0 : ((rd l0 x5_1) == x1_1) = false := beq_eq_false_iff_ne.mpr c5
            have c5b1 : ((rd l0 x5_1) != x1_1) = true := bne_iff_ne.mpr c5
            obtain rfl := Option.some.inj H
            have p165 : 0 ≤ (x5_1 : Int) := of_decide_eq_true (by first | (with_reducible assumption) | assumption)
            have q165 : x5_1 < (l0.length : Int) := of_decide_eq_true (by first | (with_reducible assumption) | assumption)
            obtain ⟨ad165, e165, hx165_0⟩ := Kd.at_int HR0.out x5_1 p165 q165
            cases e165
            replace p165 := eq_true p165
            replace q165 := eq_true q165
            go_wp2
            go_ret
            exact ⟨by first | rfl | (simp; done) | (simp [*]; done), by repeat (first | exact Drawn0.refl _ | apply Drawn0.step)⟩
        · rw [if_neg c4] at H
          exact absurd H (by simp)
      · rw [if_neg c3] at H
        have c3b0 : decide (x5_1 < (l0.length : Int)) = false := decide_eq_false c3
        clear c3
        obtain rfl := Option.some.inj H
        go_wp2
        go_ret
        exact ⟨by first | rfl | (simp; done) | (simp [*]; done), by repeat (first | exact Drawn0.refl _ | apply Drawn0.step)⟩

/-! ### laws_heldThingS: function 97 -/
def laws_heldThingS.l0 : Nat → List (S84) → Int → Int → Option (Int)
  | 0, _, _, _ => none
  | k + 1, x0, x1, x5 => if x5 < (x0.length : Int) then (if 0 ≤ x5 then (if ((rd_T84 x0 x5).f0) = x1 then (if ((rd_T84 x0 x5).f1) = (wrap64 (x1 + 1)) then (if ((rd_T84 x0 x5).f2) = (wrap64 ((wrap64 (x1 + 1)) + 1)) then (laws_heldThingS.l0 k x0 (wrap64 ((wrap64 ((wrap64 (x1 + 1)) + 1)) + 1)) (wrap64 (x5 + 1))) else (some (-1))) else (some (-1))) else (some (-1))) else (none)) else (some x1)
def laws_heldThingS.f (k : Nat) (l0 : List (S84)) (a1 : Int) : Option (Int) := laws_heldThingS.l0 k l0 a1 0
theorem laws_heldThingS.mono_l : ∀ k, (∀ y0 y1 y2, LeO (laws_heldThingS.l0 k y0 y1 y2) (laws_heldThingS.l0 (k + 1) y0 y1 y2))
  | 0 => fun _ _ _ r h => by simp [laws_heldThingS.l0] at h
  | k + 1 => by
    have ih0 := laws_heldThingS.mono_l k
    · intro y0 y1 y2
      unfold laws_heldThingS.l0
      repeat' first
      | (with_reducible exact ih0 _ _ _)
      | (with_reducible exact LeO.refl _)
      | (with_reducible exact LeO.none _)
      | (with_reducible refine LeO.ite ?_ ?_)
      | (with_reducible refine LeO.bind ?_ (fun _ => ?_))
      | exact ih0 _ _ _
      | exact LeO.none _
      | refine LeO.ite ?_ ?_
      | refine LeO.bind ?_ (fun _ => ?_)
theorem laws_heldThingS.mono : ∀ a0 a1 k, LeO (laws_heldThingS.f k a0 a1) (laws_heldThingS.f (k + 1) a0 a1) := by
  intro a0 a1 k
  have ih0 := laws_heldThingS.mono_l k
  unfold laws_heldThingS.f
  repeat' first
      | (with_reducible exact ih0 _ _ _)
      | (with_reducible exact LeO.refl _)
      | (with_reducible exact LeO.none _)
      | (with_reducible refine LeO.ite ?_ ?_)
      | (with_reducible refine LeO.bind ?_ (fun _ => ?_))
      | exact ih0 _ _ _
      | exact LeO.none _
      | refine LeO.ite ?_ ?_
      | refine LeO.bind ?_ (fun _ => ?_)
set_option maxHeartbeats 8000000 in
set_option maxRecDepth 100000 in
theorem laws_heldThingS.calls (k : Nat) (A0 : Option Addr) (c0 : Nat) (l0 : List (S84)) (a1 : Int) (r : Int) (w : World) (hr0 : Kd.C k84 w A0 l0.length l0) (hc0 : l0.length ≤ c0) (h : laws_heldThingS.f k l0 a1 = some r) :
    Calls Try.prog 97 #[.slice A0 l0.length c0, .int .i64 a1] w fun e w' => e = .returned (.int .i64 r) ∧ Drawn0 w w' := by
  have HR0 := Aside0.mk hr0
  have HC0 := Aside0.mk hc0
  clear hr0 hc0
  have H : (laws_heldThingS.l0 k l0 a1 0) = some r := h
  clear h
  have H' := Aside0.mk H
  clear H
  go_enter Try.func97, Try.ntmps97
  go_wp2
  go_loopg [1, 5] k (fun kq v1 v5 w' => ∃ (x1_1 : Int) (x5_1 : Int), v1 = .int .i64 x1_1 ∧ v5 = .int .i64 x5_1 ∧ Aside0 (laws_heldThingS.l0 kq l0 x1_1 x5_1 = some r) ∧ Aside0 (kq ≤ k) ∧ Drawn0 w w')
  case atStart => exact ⟨(a1), (0), (by first | rfl | (simp; done) | (simp [*]; done)), (by first | rfl | (simp; done) | (simp [*]; done)), H', ⟨Nat.le_refl _⟩, by repeat (first | exact Drawn0.refl _ | apply Drawn0.step)⟩
  case round =>
    clear H'
    try clear p2
    obtain ⟨x1_1, x5_1, rfl, rfl, HA, HK1, ⟨m1, rfl⟩⟩ := hrel
    cases gk with
    | zero => exact absurd HA.out (by simp [laws_heldThingS.l0])
    | succ k1 =>
      have H := HA.out
      clear HA
      simp only [laws_heldThingS.l0] at H
      by_cases c3 : x5_1 < (l0.length : Int)
      · rw [if_pos c3] at H
        have c3b0 : decide (x5_1 < (l0.length : Int)) = true := decide_eq_true c3
        clear c3
        by_cases c4 : 0 ≤ x5_1
        · rw [if_pos c4] at H
          have c4b0 : decide (0 ≤ x5_1) = true := decide_eq_true c4
          clear c4
          by_cases c5 : ((rd_T84 l0 x5_1).f0) = x1_1
          · rw [if_pos c5] at H
            have c5b0 : (((rd_T84 l0 x5_1).f0) == x1_1) = true := beq_iff_eq.mpr c5
            have c5b1 : (((rd_T84 l0 x5_1).f0) != x1_1) = false := bne_eq_false_iff_eq.mpr c5
            clear c5
            by_cases c6 : ((rd_T84 l0 x5_1).f1) = (wrap64 (x1_1 + 1))
            · rw [if_pos c6] at H
              have c6b0 : (((rd_T84 l0 x5_1).f1) == (wrap64 (x1_1 + 1))) = true := beq_iff_eq.mpr c6
              have c6b1 : (((rd_T84 l0 x5_1).f1) != (wrap64 (x1_1 + 1))) = false := bne_eq_false_iff_eq.mpr c6
              clear c6
              by_cases c7 : ((rd_T84 l0 x5_1).f2) = (wrap64 ((wrap64 (x1_1 + 1)) + 1))
              · rw [if_pos c7] at H
                have c7b0 : (((rd_T84 l0 x5_1).f2) == (wrap64 ((wrap64 (x1_1 + 1)) + 1))) = true := beq_iff_eq.mpr c7
                have c7b1 : (((rd_T84 l0 x5_1).f2) != (wrap64 ((wrap64 (x1_1 + 1)) + 1))) = false := bne_eq_false_iff_eq.mpr c7
                clear c7
                have H' := Aside0.mk H
                clear H
                have p166 : 0 ≤ (x5_1 : Int) := of_decide_eq_true (by first | (with_reducible assumption) | assumption)
                have q166 : x5_1 < (l0.length : Int) := of_decide_eq_true (by first | (with_reducible assumption) | assumption)
                obtain ⟨ad166, e166, hx166_0, hx166_1, hx166_2⟩ := at_T84 HR0.out x5_1 p166 q166
                cases e166
                replace p166 := eq_true p166
                replace q166 := eq_true q166
                have p167 : 0 ≤ (x5_1 : Int) := of_decide_eq_true (by first | (with_reducible assumption) | assumption)
                have q167 : x5_1 < (l0.length : Int) := of_decide_eq_true (by first | (with_reducible assumption) | assumption)
                obtain ⟨ad167, e167, hx167_0, hx167_1, hx167_2⟩ := at_T84 HR0.out x5_1 p167 q167
                obtain rfl : ad166 = ad167 := (by injection e167)
                replace p167 := eq_true p167
                replace q167 := eq_true q167
                have p168 : 0 ≤ (x5_1 : Int) := of_decide_eq_true (by first | (with_reducible assumption) | assumption)
                have q168 : x5_1 < (l0.length : Int) := of_decide_eq_true (by first | (with_reducible assumption) | assumption)
                obtain ⟨ad168, e168, hx168_0, hx168_1, hx168_2⟩ := at_T84 HR0.out x5_1 p168 q168
                obtain rfl : ad166 = ad168 := (by injection e168)
                replace p168 := eq_true p168
                replace q168 := eq_true q168
                go_wp2
                go_roundg k1
                case measure => have := HK1.out; omega
                case rel => exact ⟨(wrap64 ((wrap64 ((wrap64 (x1_1 + 1)) + 1)) + 1)), (wrap64 (x5_1 + 1)), (by first | rfl | (simp; done) | (simp [*]; done)), (by first | rfl | (simp; done) | (simp [*]; done)), H', ⟨by have := HK1.out; omega⟩, by repeat (first | exact Drawn0.refl _ | apply Drawn0.step)⟩
              · rw [if_neg c7] at H
                have c7b0 : (((rd_T84 l0 x5_1).f2) == (wrap64 ((wrap64 (x1_1 + 1)) + 1))) = false := beq_eq_false_iff_ne.mpr c7
                have c7b1 : (((rd_T84 l0 x5_1).f2) != (wrap64 ((wrap64 (x1_1 + 1)) + 1))) = true := bne_iff_ne.mpr c7
                obtain rfl := Option.some.inj H
                have p166 : 0 ≤ (x5_1 : Int) := of_decide_eq_true (by first | (with_reducible assumption) | assumption)
                have q166 : x5_1 < (l0.length : Int) := of_decide_eq_true (by first | (with_reducible assumption) | assumption)
                obtain ⟨ad166, e166, hx166_0, hx166_1, hx166_2⟩ := at_T84 HR0.out x5_1 p166 q166
                cases e166
                replace p166 := eq_true p166
                replace q166 := eq_true q166
                have p167 : 0 ≤ (x5_1 : Int) := of_decide_eq_true (by first | (with_reducible assumption) | assumption)
                have q167 : x5_1 < (l0.length : Int) := of_decide_eq_true (by first | (with_reducible assumption) | assumption)
                obtain ⟨ad167, e167, hx167_0, hx167_1, hx167_2⟩ := at_T84 HR0.out x5_1 p167 q167
                obtain rfl : ad166 = ad167 := (by injection e167)
                replace p167 := eq_true p167
                replace q167 := eq_true q167
                have p168 : 0 ≤ (x5_1 : Int) := of_decide_eq_true (by first | (with_reducible assumption) | assumption)
                have q168 : x5_1 < (l0.length : Int) := of_decide_eq_true (by first | (with_reducible assumption) | assumption)
                obtain ⟨ad168, e168, hx168_0, hx168_1, hx168_2⟩ := at_T84 HR0.out x5_1 p168 q168
                obtain rfl : ad166 = ad168 := (by injection e168)
                replace p168 := eq_true p168
                replace q168 := eq_true q168
                go_wp2
                go_ret
                exact ⟨by first | rfl | (simp; done) | (simp [*]; done), by repeat (first | exact Drawn0.refl _ | apply Drawn0.step)⟩
            · rw [if_neg c6] at H
              have c6b0 : (((rd_T84 l0 x5_1).f1) == (wrap64 (x1_1 + 1))) = false := beq_eq_false_iff_ne.mpr c6
              have c6b1 : (((rd_T84 l0 x5_1).f1) != (wrap64 (x1_1 + 1))) = true := bne_iff_ne.mpr c6
              obtain rfl := Option.some.inj H
              have p166 : 0 ≤ (x5_1 : Int) := of_decide_eq_true (by first | (with_reducible assumption) | assumption)
              have q166 : x5_1 < (l0.length : Int) := of_decide_eq_true (by first | (with_reducible assumption) | assumption)
              obtain ⟨ad166, e166, hx166_0, hx166_1, hx166_2⟩ := at_T84 HR0.out x5_1 p166 q166
              cases e166
              replace p166 := eq_true p166
              replace q166 := eq_true q166
              have p167 : 0 ≤ (x5_1 : Int) := of_decide_eq_true (by first | (with_reducible assumption) | assumption)
              have q167 : x5_1 < (l0.length : Int) := of_decide_eq_true (by first | (with_reducible assumption) | assumption)
              obtain ⟨ad167, e167, hx167_0, hx167_1, hx167_2⟩ := at_T84 HR0.out x5_1 p167 q167
              obtain rfl : ad166 = ad167 := (by injection e167)
              replace p167 := eq_true p167
              replace q167 := eq_true q167
              go_wp2
              go_ret
              exact ⟨by first | rfl | (simp; done) | (simp [*]; done), by repeat (first | exact Drawn0.refl _ | apply Drawn0.step)⟩
          · rw [if_neg c5] at H
            have c5b0 : (((rd_T84 l0 x5_1).f0) == x1_1) = false := beq_eq_false_iff_ne.mpr c5
            have c5b1 : (((rd_T84 l0 x5_1).f0) != x1_1) = true := bne_iff_ne.mpr c5
            obtain rfl := Option.some.inj H
            have p166 : 0 ≤ (x5_1 : Int) := of_decide_eq_true (by first | (with_reducible assumption) | assumption)
            have q166 : x5_1 < (l0.length : Int) := of_decide_eq_true (by first | (with_reducible assumption) | assumption)
            obtain ⟨ad166, e166, hx166_0, hx166_1, hx166_2⟩ := at_T84 HR0.out x5_1 p166 q166
            cases e166
            replace p166 := eq_true p166
            replace q166 := eq_true q166
            go_wp2
            go_ret
            exact ⟨by first | rfl | (simp; done) | (simp [*]; done), by repeat (first | exact Drawn0.refl _ | apply Drawn0.step)⟩
        · rw [if_neg c4] at H
          exact absurd H (by simp)
      · rw [if_neg c3] at H
        have c3b0 : decide (x5_1 < (l0.length : Int)) = false := decide_eq_false c3
        clear c3
        obtain rfl := Option.some.inj H
        go_wp2
        go_ret
        exact ⟨by first | rfl | (simp; done) | (simp [*]; done), by repeat (first | exact Drawn0.refl _ | apply Drawn0.step)⟩

end Go.Proofs.Ytnloeihhimcblaa.QFnExactTableNew
