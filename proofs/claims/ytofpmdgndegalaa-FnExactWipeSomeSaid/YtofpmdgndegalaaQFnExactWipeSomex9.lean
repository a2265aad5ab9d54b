/- What the functions that the law FnExactWipeSome reaches compute, as plain functions, and that the code computes just that (by a program of this session's; the library's functions by hand). No condition. -/
import Derived.Test.YtofpmdgndegalaaQFnExactWipeSomex0
import Derived.Test.YtofpmdgndegalaaQFnExactWipeSomex6
import Derived.Test.YtofpmdgndegalaaQFnExactWipeSomex8
namespace Go.Proofs.Ytofpmdgndegalaa.QFnExactWipeSome
open Go.RowKit Go.Proofs.YtofpmdgndegalaaW.PrintWords Go.Proofs.YtofpmdgndegalaaW.PrintLast Go.Proofs.YtofpmdgndegalaaW.PrintMore
attribute [local go_sem] max2_int min2_int max_two min_two max_three min_three max_four min_four   -- for this text's walks alone
set_option linter.unusedVariables false
set_option linter.unusedSimpArgs false

/-! ### impl_WipeSome: function 8 -/
/-- 'xs[i:j]' by its address. -/
theorem impl_WipeSome.cut {P : Program} (t e : TypeId) {i : TypeInfo} (ht : P.underlying t = some (.slice e)) (hi : P.info? e = some i) (hsz : i.size = 1) (A : Option Addr) (n c : Nat) (a b : Int) (h0 : 0 ≤ a) (h1 : a ≤ b) (hm : b ≤ n) (hc : n ≤ c) :
  ∀ W : World, (Instr.slice t (.slice A n c) (some (.int .i64 a)) (some (.int .i64 b)) none).run P W = .ok (.slice (if c = a.toNat then A else A.map (·.add a.toNat)) (b.toNat - a.toNat) (c - a.toNat)) W := by
 intro W
 have hel : P.elem t = e := by simp [Program.elem, ht]
 have hu : P.underlying t = some (.slice (P.elem t)) := by rw [hel]; exact ht
 rw [run_slice_lh W t A n c hu .i64 .i64 a b h0 h1 (by omega), hel]
 simp [sizeOf, typeInfo, hi, hsz, sliced, Result.andThen]
/-- A part of a row of scalars of one's own is written anew: what the row holds then. -/
theorem impl_WipeSome.laid {α : Type} {enc : α → Value} {h1 : ∀ x, (enc x).oneCell' = true} {e : TypeId} {base : Nat} {ok : Nat → Prop} {W : World} {v : Value} {xs ys : List α} {g : Nat} (HO : (Kd.scalar enc h1).R e W base ok v xs) (hg : v.ownBlock = some g) (i : Nat) (hfit : i + ys.length ≤ xs.length) :
  (Kd.scalar enc h1).R e (W.setCells g i (encs enc ys)) base ok v (xs.take i ++ (ys ++ xs.drop (i + ys.length))) ∧ W.grownBy (W.setCells g i (encs enc ys)) v.ownBlock ∧ (∀ j, j < ys.length → (W.cell? ⟨g, i + j, none⟩).isSome = true) ∧ (∀ j, j < ys.length → W.frozen? ⟨g, i + j, none⟩ = false) := by
 have hown := Kd.own_of_R HO
 rcases hown.2 with ⟨rfl, hx0⟩ | ⟨g', cap, cur, hv, hb, hh, hnc, hcm, hcs, htake⟩
 ·simp [Value.ownBlock] at hg
 obtain rfl : g' = g := by rw [hv] at hg; simpa [Value.ownBlock] using hg
 have hcl : cur.toList.length = cur.size := Array.length_toList
 obtain ⟨cur', h3, h4, h5⟩ := setCells_row (encs enc ys) i W cur hh (by rw [encs_length]; omega)
 obtain ⟨s1, s2, s3, s4⟩ := setCells_same g' (encs enc ys) i W
 have hln : (xs.take i ++ (ys ++ xs.drop (i + ys.length))).length = xs.length := by
  rw [List.length_append, List.length_append, List.length_take, List.length_drop]
  omega
 refine ⟨Kd.R_of_own ?_ HO.1, ⟨s1, s2, s3, by rw [s4]; exact Nat.le_refl _, fun k _ hk => setCells_far _ _ k (fun he => hk (by rw [hv, he]; simp [Value.ownBlock]))⟩, fun j hj => by rw [cell_of_row W g' _ cur e (0, 0) hh]; simp; omega, fun j _ => blk_frozen hh _⟩
 rw [hln]
 refine ⟨by rw [encs_length, hln, Nat.mul_one], .inr ⟨g', cap, cur', hv, hb, h3, hnc, hcm, by rw [h4, hcs], ?_⟩⟩
 rw [h5, Nat.mul_one, encs_append, encs_append]
 have htk : cur.toList.take xs.length = encs enc xs := by rw [← htake, Nat.mul_one]
 have ht1 : encs enc (xs.take i) = (encs enc xs).take i := by simp [encs, List.map_take]
 have hd1 : encs enc (xs.drop (i + ys.length)) = (encs enc xs).drop (i + ys.length) := by simp [encs, List.map_drop]
 rw [ht1, hd1, ← htk, encs_length, List.take_take, Nat.min_eq_left (by omega), List.append_assoc, List.take_append, List.length_take, List.take_of_length_le (by rw [List.length_take]; omega), List.take_append, List.take_of_length_le (l := encs enc ys) (by rw [encs_length]; omega), encs_length, List.drop_take]
 congr 3
 omega
/-- clear(xs[i:i+m]), xs a row of numbers of one's own. -/
theorem impl_WipeSome.clear {P : Program} {ops : Array Oper} {rest : List Oper} {o : Oper} {a : Act} {Q : Exit → Act → World → Prop} {w0 W : World} (base : Nat) (hgd : o.guard = none) (s : Operand) (t e : TypeId) (k : IntKind)
  (ho : o.op = .call { callee := .builtin .clear, args := #[s], argTypes := #[t] }) (ht : P.underlying t = some (.slice e)) (hz : ∀ w, (zeroValue e).run P w = .ok (.int k 0) w)
  (v : Value) (xs : List Int) (i m : Nat) (him : i + m ≤ xs.length) (A : Option Addr) (c : Nat) (ok : Nat → Prop) (hs : a.eval s = .slice A m c) (hA : 0 < m → ∀ g, v.ownBlock = some g → A = some ⟨g, i, none⟩)
  (HO : (Kd.int k).R e W base ok v xs) (HB : Below base w0 W) (hbase : base ≤ W.heap.size)
  (h : ∀ w1, (Kd.int k).R e w1 base ok v (xs.take i ++ (List.replicate m 0 ++ xs.drop (i + m))) → Below base w0 w1 → W.grownBy w1 v.ownBlock → wpList P ops Q rest (a.put o.dst (.tuple #[])) w1) :
  wpList P ops Q (o :: rest) a W := by
 have hown := Kd.own_of_R HO
 have fin : ∀ w1, (Builtin.clear_ #[t] o.type #[.slice A m c]).run P W = .ok (.tuple #[]) w1 → (Kd.int k).R e w1 base ok v (xs.take i ++ (List.replicate m 0 ++ xs.drop (i + m))) → W.grownBy w1 v.ownBlock → wpList P ops Q (o :: rest) a W := by
  intro w1 hr hrow hg
  refine wpList_plain hgd fun K hK => ?_
  unfold Oper.wp execOp
  simp only [ho, resolve, invoke, builtin, Sem.run_bind, Sem.run_pure, Result.andThen_ok, List.map_toArray, List.map_cons, List.map_nil, hs, hr]
  exact hK _ _ (h w1 hrow (HB.grown hg hbase (own_base hown)) hg)
 by_cases hm : m = 0
 ·subst hm
  refine fin W (by cases A <;> simp [Builtin.clear_, run_underlying ht]) ?_ (World.grownBy.refl W _)
  have e1 : xs.take i ++ (List.replicate 0 0 ++ xs.drop (i + 0)) = xs := by simp
  rw [e1]; exact HO
 ·rcases hown.2 with ⟨_, hx0⟩ | ⟨g, cap, cur, hv, _⟩
  ·omega
  have hg : v.ownBlock = some g := by rw [hv]; simp [Value.ownBlock]
  obtain rfl := hA (by omega) g hg
  obtain ⟨h1, h2, h3, h4⟩ := impl_WipeSome.laid (ys := List.replicate m (0 : Int)) HO hg i (by simpa using him)
  rw [List.length_replicate] at h1 h3 h4
  have hen : encs (Value.int k) (List.replicate m (0 : Int)) = List.replicate m (.int k 0) := by simp [encs]
  rw [hen] at h1 h2
  exact fin _ (Lib.run_clear_slice W t e o.type (.int k 0) ht hz rfl rfl g i m c (by omega) h3 h4) h1 h2
/-- Where a cut of a row of one's own begins. -/
theorem impl_WipeSome.addr {α : Type} {d : Kd α} {e : Nat} {w : World} {base : Nat} {ok : Nat → Prop} {A : Option Addr} {n c : Nat} {xs : List α} (h : d.R e w base ok (.slice A n c) xs) {i m : Nat} (hfit : i + m ≤ xs.length) :
  0 < m → ∀ g, (Value.slice A n c).ownBlock = some g → (if c = i then A else A.map (·.add i)) = some ⟨g, i, none⟩ := by
 intro hm g hg
 obtain ⟨g', cap, hv, _, _, cells, _⟩ := Kd.R_form h (by omega)
 obtain ⟨hn, hc, _⟩ := Kd.R_reads' h
 injection hv with h1 h2 h3
 subst h1
 obtain rfl : g' = g := by simpa [Value.ownBlock] using hg
 rw [if_neg (by omega), Option.map_some, add_plain]
/-- The operation 'xs[i:j]'. -/
theorem impl_WipeSome.cutop {P : Program} {o : Oper} {f : Operand → Value} {W : World} {t e : TypeId} {i : TypeInfo} {x lo hi_ : Operand} {A : Option Addr} {n c : Nat} {p q : Int} (ho : o.op = .slice t x (some lo) (some hi_) none) (ht : P.underlying t = some (.slice e)) (hi : P.info? e = some i) (hsz : i.size = 1)
  (hx : f x = .slice A n c) (hlo : f lo = .int .i64 p) (hhi : f hi_ = .int .i64 q) (h0 : 0 ≤ p) (h1 : p ≤ q) (hm : q ≤ n) (hc : n ≤ c) :
  (execOp f o).run P W = .ok (.value (.slice (if c = p.toNat then A else A.map (·.add p.toNat)) (q.toNat - p.toNat) (c - p.toNat))) W := by
 have h := impl_WipeSome.cut (P := P) t e ht hi hsz A n c p q h0 h1 hm hc W
 unfold execOp
 simp only [ho, Option.map_some, Option.map_none, hx, hlo, hhi, Sem.run_bind, Instr.sliceAt, run_underlying ht, Result.andThen_ok, h, Sem.run_pure]
/-- The operation 'xs[i:]'. -/
theorem impl_WipeSome.tailop {P : Program} {o : Oper} {f : Operand → Value} {W : World} {t e : TypeId} {i : TypeInfo} {x lo : Operand} {A : Option Addr} {n c : Nat} {p : Int} (ho : o.op = .slice t x (some lo) none none) (ht : P.underlying t = some (.slice e)) (hi : P.info? e = some i) (hsz : i.size = 1)
  (hx : f x = .slice A n c) (hlo : f lo = .int .i64 p) (h0 : 0 ≤ p) (h1 : p ≤ n) :
  (execOp f o).run P W = .ok (.value (.slice (if c = p.toNat then A else A.map (·.add p.toNat)) (n - p.toNat) (c - p.toNat))) W := by
 have hel : P.elem t = e := by simp [Program.elem, ht]
 have hu : P.underlying t = some (.slice (P.elem t)) := by rw [hel]; exact ht
 have h := run_slice_l W t A n c hu .i64 p h0 h1
 rw [hel] at h
 unfold execOp
 simp only [ho, Option.map_some, Option.map_none, hx, hlo, Sem.run_bind, Instr.sliceAt, run_underlying ht, Result.andThen_ok, h, Sem.run_pure]
 simp [sizeOf, typeInfo, hi, hsz, sliced, Result.andThen]
/-- copy(xs[i:], ys), xs a row of numbers of one's own that holds so many, ys a row that is read. -/
theorem impl_WipeSome.copyat {P : Program} {ops : Array Oper} {rest : List Oper} {o : Oper} {a : Act} {Q : Exit → Act → World → Prop} {w0 W : World} (base : Nat) (hgd : o.guard = none) (s x : Operand) (t t' e : TypeId) (k : IntKind)
  (ho : o.op = .call { callee := .builtin .copy, args := #[s, x], argTypes := #[t, t'] }) (ht : P.underlying t = some (.slice e)) (hinfo : (P.info? e).map (·.size) = some 1)
  (v : Value) (xs ys : List Int) (i : Nat) (him : i + ys.length ≤ xs.length) (A : Option Addr) (md c : Nat) (hmd : ys.length ≤ md) (A2 : Option Addr) (c2 : Nat) (ok : Nat → Prop) (hs : a.eval s = .slice A md c) (hx : a.eval x = .slice A2 ys.length c2) (hA : 0 < ys.length → ∀ g, v.ownBlock = some g → A = some ⟨g, i, none⟩)
  (HO : (Kd.int k).R e W base ok v xs) (HR : (Kd.int k).C W A2 ys.length ys) (HB : Below base w0 W) (hbase : base ≤ W.heap.size)
  (h : ∀ w1, (Kd.int k).R e w1 base ok v (xs.take i ++ (ys ++ xs.drop (i + ys.length))) → Below base w0 w1 → W.grownBy w1 v.ownBlock → wpList P ops Q rest (a.put o.dst (.int .i64 (ys.length : Int))) w1) :
  wpList P ops Q (o :: rest) a W := by
 have hown := Kd.own_of_R HO
 have fin : ∀ w1, (Builtin.copy_ #[t, t'] o.type #[.slice A md c, .slice A2 ys.length c2]).run P W = .ok (goInt ys.length) w1 → (Kd.int k).R e w1 base ok v (xs.take i ++ (ys ++ xs.drop (i + ys.length))) → W.grownBy w1 v.ownBlock → wpList P ops Q (o :: rest) a W := by
  intro w1 hr hrow hg
  refine wpList_plain hgd fun K hK => ?_
  unfold Oper.wp execOp
  simp only [ho, resolve, invoke, builtin, Sem.run_bind, Sem.run_pure, Result.andThen_ok, List.map_toArray, List.map_cons, List.map_nil, hs, hx, hr]
  exact hK _ _ (h w1 hrow (HB.grown hg hbase (own_base hown)) hg)
 by_cases hm : ys.length = 0
 ·have hr := run_copy_none (P := P) W t t' o.type e A A2 md c ys.length c2 ht hinfo (by rw [hm]; exact Nat.zero_min _)
  obtain rfl := List.eq_nil_of_length_eq_zero hm
  exact fin W hr (by simpa using HO) (World.grownBy.refl W _)
 rcases hown.2 with ⟨_, hx0⟩ | ⟨g, cap, cur, hv, _⟩
 ·omega
 have hg : v.ownBlock = some g := by rw [hv]; simp [Value.ownBlock]
 obtain rfl := hA (by omega) g hg
 obtain ⟨h1, h2, h3, h4⟩ := impl_WipeSome.laid (ys := ys) HO hg i him
 have hR := Kd.reads_of_C (enc := Value.int k) (d := (0 : Int)) (h1 := fun _ => rfl) HR
 obtain ⟨ad, rfl, hc⟩ := hR.2.2 (by omega)
 have hkl : (encs (Value.int k) ys).length = ys.length := encs_length _
 have hr := run_copy_cells (P := P) W t t' o.type e g i md c ad ys.length c2 (encs (Value.int k) ys) ht hinfo (by rw [hkl]; exact (Nat.min_eq_left hmd).symm)
  (fun j u hu => by
   have hj : j < ys.length := by
    rcases Nat.lt_or_ge j ys.length with h | h
    ·exact h
    ·rw [List.getElem?_eq_none (by rw [encs_length]; exact h)] at hu
     cases hu
   rw [encs_get (d := (0 : Int)) _ j hj] at hu
   rw [hc j hj, ← hu])
  (fun j hj => h3 j (by rw [hkl] at hj; exact hj)) (fun j hj => h4 j (by rw [hkl] at hj; exact hj)) (by intro u hu; simp only [encs, List.mem_map] at hu; obtain ⟨q, _, rfl⟩ := hu; rfl)
 rw [hkl] at hr
 exact fin _ hr h1 h2
/-- clear(xs[i:i+m]), xs a row of numbers of one's own, as a step of a region that draws its order. -/
theorem impl_WipeSome.clearms {P : Program} {ops : Array Oper} {o : Oper} {a : Act} {K : Act → World → Prop} {Q : Exit → Act → World → Prop} {E : Prop} {w0 W : World} (base : Nat) (hgd : o.guard = none) (s : Operand) (t e : TypeId) (k : IntKind)
  (ho : o.op = .call { callee := .builtin .clear, args := #[s], argTypes := #[t] }) (ht : P.underlying t = some (.slice e)) (hz : ∀ w, (zeroValue e).run P w = .ok (.int k 0) w)
  (v : Value) (xs : List Int) (i m : Nat) (him : i + m ≤ xs.length) (A : Option Addr) (c : Nat) (ok : Nat → Prop) (hs : a.eval s = .slice A m c) (hA : 0 < m → ∀ g, v.ownBlock = some g → A = some ⟨g, i, none⟩)
  (HO : (Kd.int k).R e W base ok v xs) (HB : Below base w0 W) (hbase : base ≤ W.heap.size)
  (h : ∀ w1, (Kd.int k).R e w1 base ok v (xs.take i ++ (List.replicate m 0 ++ xs.drop (i + m))) → Below base w0 w1 → W.grownBy w1 v.ownBlock → K (a.put o.dst (.tuple #[])) w1) :
  if Region.wanted o (yielded ops a.tmps) = true then Oper.wp P o a W K Q else E := by
 have hw_ : Region.wanted o (yielded ops a.tmps) = true := by simp [Region.wanted, hgd]
 rw [if_pos hw_]
 have hown := Kd.own_of_R HO
 have fin : ∀ w1, (Builtin.clear_ #[t] o.type #[.slice A m c]).run P W = .ok (.tuple #[]) w1 → (Kd.int k).R e w1 base ok v (xs.take i ++ (List.replicate m 0 ++ xs.drop (i + m))) → W.grownBy w1 v.ownBlock → Oper.wp P o a W K Q := by
  intro w1 hr hrow hg
  unfold Oper.wp execOp
  simp only [ho, resolve, invoke, builtin, Sem.run_bind, Sem.run_pure, Result.andThen_ok, List.map_toArray, List.map_cons, List.map_nil, hs, hr]
  exact h w1 hrow (HB.grown hg hbase (own_base hown)) hg
 by_cases hm : m = 0
 ·subst hm
  refine fin W (by cases A <;> simp [Builtin.clear_, run_underlying ht]) ?_ (World.grownBy.refl W _)
  have e1 : xs.take i ++ (List.replicate 0 0 ++ xs.drop (i + 0)) = xs := by simp
  rw [e1]; exact HO
 ·rcases hown.2 with ⟨_, hx0⟩ | ⟨g, cap, cur, hv, _⟩
  ·omega
  have hg : v.ownBlock = some g := by rw [hv]; simp [Value.ownBlock]
  obtain rfl := hA (by omega) g hg
  obtain ⟨h1, h2, h3, h4⟩ := impl_WipeSome.laid (ys := List.replicate m (0 : Int)) HO hg i (by simpa using him)
  rw [List.length_replicate] at h1 h3 h4
  have hen : encs (Value.int k) (List.replicate m (0 : Int)) = List.replicate m (.int k 0) := by simp [encs]
  rw [hen] at h1 h2
  exact fin _ (Lib.run_clear_slice W t e o.type (.int k 0) ht hz rfl rfl g i m c (by omega) h3 h4) h1 h2
/-- Where the bytes that are cleared begin, or -1 where they do not lie within the chunk's bytes. -/
def wsIx (n : Nat) (k c s f : Int) : Int := if 0 ≤ wrap64 (k * s) ∧ wrap64 (k * s) ≤ wrap64 (wrap64 (k + 1) * s) ∧ wrap64 (wrap64 (k + 1) * s) ≤ (n : Int) ∧ 0 ≤ f ∧ f < mn (wrap64 (f + c)) s ∧ mn (wrap64 (f + c)) s ≤ wrap64 (wrap64 (k + 1) * s) - wrap64 (k * s) then wrap64 (k * s) + f else -1
/-- The bytes behind the clearing. -/
def wsRow (l : List Int) (k c s f : Int) : List Int := l.take (wrap64 (k * s) + f).toNat ++ (List.replicate (mn (wrap64 (f + c)) s - f).toNat 0 ++ l.drop ((wrap64 (k * s) + f).toNat + (mn (wrap64 (f + c)) s - f).toNat))
theorem wsNums (n : Nat) (p q f tz : Int) (h : 0 ≤ p ∧ p ≤ q ∧ q ≤ (n : Int) ∧ 0 ≤ f ∧ f < tz ∧ tz ≤ q - p) : p.toNat + f.toNat = (p + f).toNat ∧ tz.toNat - f.toNat = (tz - f).toNat ∧ (p + f).toNat + (tz - f).toNat ≤ n ∧ f ≤ tz ∧ tz ≤ ((q.toNat - p.toNat : Nat) : Int) ∧ 0 < n ∧ p.toNat < n ∧ f.toNat < n - p.toNat ∧ q.toNat - p.toNat ≤ n - p.toNat := by omega
theorem wsFacts {P : Program} {t e : TypeId} {i : TypeInfo} (ht : P.underlying t = some (.slice e)) (hi : P.info? e = some i) (hsz : i.size = 1) {W : World} {base : Nat} {ok : Nat → Prop} {A : Option Addr} {co : Nat} {l : List Int} {kd : IntKind} (HO : (Kd.int kd).R e W base ok (.slice A l.length co) l) {k c s f ji : Int} (hj : wsIx l.length k c s f = ji) (h0 : 0 ≤ ji) :
  ∃ (A1 : Option Addr) (n1 c1 : Nat) (A2 : Option Addr) (m c2 : Nat) (tz : Int), (∀ W : World, (Instr.slice t (.slice A l.length co) (some (.int .i64 (wrap64 (k * s)))) (some (.int .i64 (wrap64 (wrap64 (k + 1) * s)))) none).run P W = .ok (.slice A1 n1 c1) W) ∧ (∀ W : World, (Instr.slice t (.slice A1 n1 c1) (some (.int .i64 f)) (some (.int .i64 tz)) none).run P W = .ok (.slice A2 m c2) W) ∧ (0 < m → ∀ g, (Value.slice A l.length co).ownBlock = some g → A2 = some ⟨g, ji.toNat, none⟩) ∧ ji.toNat + m ≤ l.length ∧ wsRow l k c s f = l.take ji.toNat ++ (List.replicate m 0 ++ l.drop (ji.toNat + m)) ∧ ((s < wrap64 (f + c)) = True ∧ s = tz ∨ (s < wrap64 (f + c)) = False ∧ wrap64 (f + c) = tz) := by
 have hco := (Kd.R_reads' HO).2.1
 unfold wsIx at hj
 unfold wsRow
 have hto : (s < wrap64 (f + c)) = True ∧ s = mn (wrap64 (f + c)) s ∨ (s < wrap64 (f + c)) = False ∧ wrap64 (f + c) = mn (wrap64 (f + c)) s := by
  unfold mn
  by_cases hs : s < wrap64 (f + c)
  ·exact .inl ⟨eq_true hs, (if_pos hs).symm⟩
  exact .inr ⟨eq_false hs, (if_neg hs).symm⟩
 revert hto hj
 generalize wrap64 (wrap64 (k + 1) * s) = q
 generalize wrap64 (k * s) = p
 generalize mn (wrap64 (f + c)) s = tz
 intro hj hto
 by_cases hc : 0 ≤ p ∧ p ≤ q ∧ q ≤ (l.length : Int) ∧ 0 ≤ f ∧ f < tz ∧ tz ≤ q - p
 rotate_left
 ·rw [if_neg hc] at hj
  omega
 rw [if_pos hc] at hj
 obtain ⟨z1, z2, z3, z4, z5, z6, z7, z8, z9⟩ := wsNums l.length p q f tz hc
 have c1 := impl_WipeSome.cut (P := P) t e ht hi hsz A l.length co p q hc.1 hc.2.1 hc.2.2.1 hco
 have c2 := impl_WipeSome.cut (P := P) t e ht hi hsz (if co = p.toNat then A else A.map (·.add p.toNat)) (q.toNat - p.toNat) (co - p.toNat) f tz hc.2.2.2.1 z4 z5 (Nat.le_trans z9 (Nat.sub_le_sub_right hco _))
 rw [z2] at c2
 refine ⟨_, _, _, _, _, _, tz, c1, c2, ?_, by rw [← hj]; exact z3, by rw [← hj], hto⟩
 intro _ g hg
 obtain ⟨g', cap, hv, _, _, cells, _⟩ := Kd.R_form HO z6
 injection hv with h1 h2 h3
 subst h1
 obtain rfl : g' = g := by simpa [Value.ownBlock] using hg
 rw [if_neg (by omega), if_neg (by omega), ← hj, ← z1, Option.map_some, add_plain, Option.map_some]
 first | rfl | (simp only [Addr.add]; done) | simp [Addr.add]
/-- A call of chunk makes two boxes; what held holds behind it. -/
theorem wsR {α : Type} {d : Kd α} {e base : Nat} {ok : Nat → Prop} {w wq : World} {v : Value} {xs : List α} {o1 o2 : Obj} (hq : wq = (w.drew.alloc o1).alloc o2) (h : Aside0 (d.R e w base ok v xs)) : Aside0 (d.R e wq base ok v xs) := by
 subst hq; exact ⟨Kd.R_alloc (Kd.R_alloc (Kd.R_drew h.out) _) _⟩
theorem wsK {g : Nat} {w wq : World} {o o1 o2 : Obj} (hq : wq = (w.drew.alloc o1).alloc o2) (h : Aside0 (w.heap[g]? = some o)) : Aside0 (wq.heap[g]? = some o) := by
 subst hq; exact ⟨blk_alloc (blk_alloc (blk_drew h.out) _) _⟩
theorem wsB {w0 w wq : World} {o1 o2 : Obj} (hq : wq = (w.drew.alloc o1).alloc o2) (h : Aside0 (Below w0.heap.size w0 w)) : Aside0 (Below w0.heap.size w0 wq) := by
 subst hq; exact ⟨below_alloc (below_alloc (below_drew1 h.out) _) _⟩
mutual
def impl_WipeSome.j0 : Nat → Int → Int → Bool → Int → Int → Int → Int → Int → Int → List Int → List Int → List Int → List Int → List Int → List Int → Option (List Int × List Int × List Int × Bool)
 | 0, _, _, _, _, _, _, _, _, _, _, _, _, _, _, _ => none
 | k + 1, x2, x3, x41, x254000, x254001, x254002, x254003, x254004, x254005, x255000, x255001, x255002, x266000, x266001, x266002 => if x41 = true then (some (x266000, x266001, x266002, false)) else (if (wrap64 (x3 + x254004)) ≥ x254001 then (if 0 ≤ (wrap64 (x2 * x254001)) then (if (wrap64 (x2 * x254001)) ≤ (wrap64 ((wrap64 (x2 + 1)) * x254001)) then (if (wrap64 ((wrap64 (x2 + 1)) * x254001)) ≤ (x255000.length : Int) then (if 0 ≤ x3 then (if x3 ≤ (((x255000.take ((wrap64 ((wrap64 (x2 + 1)) * x254001)) : Int).toNat).drop ((wrap64 (x2 * x254001)) : Int).toNat).length : Int) then ((impl_IsZero.f k (((x255000.take ((wrap64 ((wrap64 (x2 + 1)) * x254001)) : Int).toNat).drop ((wrap64 (x2 * x254001)) : Int).toNat).take (x3 : Int).toNat)).bind fun t272 => (impl_WipeSome.j1 k x2 x3 (decide ((wrap64 (x3 + x254004)) ≥ x254001)) (!t272) x254000 x254001 x254002 x254003 x254004 x254005 x266000 x266001 x266002)) else (none)) else (none)) else (none)) else (none)) else (none)) else (impl_WipeSome.j1 k x2 x3 (decide ((wrap64 (x3 + x254004)) ≥ x254001)) false x254000 x254001 x254002 x254003 x254004 x254005 x266000 x266001 x266002))
def impl_WipeSome.j1 : Nat → Int → Int → Bool → Bool → Int → Int → Int → Int → Int → Int → List Int → List Int → List Int → Option (List Int × List Int × List Int × Bool)
 | 0, _, _, _, _, _, _, _, _, _, _, _, _, _ => none
 | k + 1, x2, x3, x11, x60, x254000, x254001, x254002, x254003, x254004, x254005, x266000, x266001, x266002 => if x60 = true then (some (x266000, x266001, x266002, false)) else (if 0 ≤ (wsIx x266000.length x2 x254004 x254001 x3) then (if (wsIx x266000.length x2 x254004 x254001 x3) < (x266000.length : Int) then ((some (wsRow x266000 x2 x254004 x254001 x3 : List Int)).bind fun y273 => (if x11 = true then (if 0 ≤ x2 then (if x2 < (x266001.length : Int) then (some (y273, (x266001.set (x2 : Int).toNat 0), x266002, x11)) else (none)) else (none)) else (some (y273, x266001, x266002, x11)))) else (none)) else (none))
end
def impl_WipeSome.f (k : Nat) (a0_0 : Int) (a0_1 : Int) (a0_2 : Int) (a0_3 : Int) (a0_4 : Int) (a0_5 : Int) (l1_0 : List Int) (l1_1 : List Int) (l1_2 : List Int) (a2 : Int) (a3 : Int) : Option (List Int × List Int × List Int × Bool) := (impl_copyPool.f l1_0 l1_1 l1_2).bind fun bt256 => ((impl_PoolOk.f k a0_0 a0_1 a0_2 a0_3 a0_4 a0_5 l1_0 l1_1 l1_2).bind fun t266 => (if t266 = true then ((impl_within.f a2 0 (wrap64 (a0_0 - 1))).bind fun t267 => (if t267 = true then (if 0 ≤ a2 then (if a2 < (l1_1.length : Int) then (if (rd l1_1 a2) = 2 then ((impl_within.f a3 0 (wrap64 (a0_1 - 1))).bind fun t269 => (impl_WipeSome.j0 k a2 a3 (!t269) a0_0 a0_1 a0_2 a0_3 a0_4 a0_5 l1_0 l1_1 l1_2 bt256.1 bt256.2.1 bt256.2.2)) else (impl_WipeSome.j0 k a2 a3 true a0_0 a0_1 a0_2 a0_3 a0_4 a0_5 l1_0 l1_1 l1_2 bt256.1 bt256.2.1 bt256.2.2)) else (none)) else (none)) else (impl_WipeSome.j0 k a2 a3 true a0_0 a0_1 a0_2 a0_3 a0_4 a0_5 l1_0 l1_1 l1_2 bt256.1 bt256.2.1 bt256.2.2))) else (impl_WipeSome.j0 k a2 a3 true a0_0 a0_1 a0_2 a0_3 a0_4 a0_5 l1_0 l1_1 l1_2 bt256.1 bt256.2.1 bt256.2.2)))
theorem impl_WipeSome.mono_l : ∀ k, (∀ y0 y1 y2 y3 y4 y5 y6 y7 y8 y9 y10 y11 y12 y13 y14, LeO (impl_WipeSome.j0 k y0 y1 y2 y3 y4 y5 y6 y7 y8 y9 y10 y11 y12 y13 y14) (impl_WipeSome.j0 (k + 1) y0 y1 y2 y3 y4 y5 y6 y7 y8 y9 y10 y11 y12 y13 y14)) ∧ (∀ y0 y1 y2 y3 y4 y5 y6 y7 y8 y9 y10 y11 y12, LeO (impl_WipeSome.j1 k y0 y1 y2 y3 y4 y5 y6 y7 y8 y9 y10 y11 y12) (impl_WipeSome.j1 (k + 1) y0 y1 y2 y3 y4 y5 y6 y7 y8 y9 y10 y11 y12))
 | 0 => ⟨fun _ _ _ _ _ _ _ _ _ _ _ _ _ _ _ r h => by simp [impl_WipeSome.j0] at h, fun _ _ _ _ _ _ _ _ _ _ _ _ _ r h => by simp [impl_WipeSome.j1] at h⟩
 | k + 1 => by
  obtain ⟨ih0, ih1⟩ := impl_WipeSome.mono_l k
  refine ⟨?_, ?_⟩
  ·intro y0 y1 y2 y3 y4 y5 y6 y7 y8 y9 y10 y11 y12 y13 y14
   unfold impl_WipeSome.j0
   repeat' first
   | (with_reducible exact ih0 _ _ _ _ _ _ _ _ _ _ _ _ _ _ _)
   | (with_reducible exact ih1 _ _ _ _ _ _ _ _ _ _ _ _ _)
   | (with_reducible exact impl_IsZero.mono _ _)
   | (with_reducible exact impl_PoolOk.mono _ _ _ _ _ _ _ _ _ _)
   | (with_reducible exact LeO.refl _)
   | (with_reducible exact LeO.none _)
   | (with_reducible refine LeO.ite ?_ ?_)
   | (with_reducible refine LeO.bind ?_ (fun _ => ?_))
   | exact ih0 _ _ _ _ _ _ _ _ _ _ _ _ _ _ _
   | exact ih1 _ _ _ _ _ _ _ _ _ _ _ _ _
   | exact impl_IsZero.mono _ _
   | exact impl_PoolOk.mono _ _ _ _ _ _ _ _ _ _
   | exact LeO.none _
   | refine LeO.ite ?_ ?_
   | refine LeO.bind ?_ (fun _ => ?_)
  ·intro y0 y1 y2 y3 y4 y5 y6 y7 y8 y9 y10 y11 y12
   unfold impl_WipeSome.j1
   repeat' first
   | (with_reducible exact ih0 _ _ _ _ _ _ _ _ _ _ _ _ _ _ _)
   | (with_reducible exact ih1 _ _ _ _ _ _ _ _ _ _ _ _ _)
   | (with_reducible exact impl_IsZero.mono _ _)
   | (with_reducible exact impl_PoolOk.mono _ _ _ _ _ _ _ _ _ _)
   | (with_reducible exact LeO.refl _)
   | (with_reducible exact LeO.none _)
   | (with_reducible refine LeO.ite ?_ ?_)
   | (with_reducible refine LeO.bind ?_ (fun _ => ?_))
   | exact ih0 _ _ _ _ _ _ _ _ _ _ _ _ _ _ _
   | exact ih1 _ _ _ _ _ _ _ _ _ _ _ _ _
   | exact impl_IsZero.mono _ _
   | exact impl_PoolOk.mono _ _ _ _ _ _ _ _ _ _
   | exact LeO.none _
   | refine LeO.ite ?_ ?_
   | refine LeO.bind ?_ (fun _ => ?_)
theorem impl_WipeSome.mono : ∀ a0 a1 a2 a3 a4 a5 a6 a7 a8 a9 a10 k, LeO (impl_WipeSome.f k a0 a1 a2 a3 a4 a5 a6 a7 a8 a9 a10) (impl_WipeSome.f (k + 1) a0 a1 a2 a3 a4 a5 a6 a7 a8 a9 a10) := by
 intro a0 a1 a2 a3 a4 a5 a6 a7 a8 a9 a10 k
 obtain ⟨ih0, ih1⟩ := impl_WipeSome.mono_l k
 unfold impl_WipeSome.f
 repeat' first
   | (with_reducible exact ih0 _ _ _ _ _ _ _ _ _ _ _ _ _ _ _)
   | (with_reducible exact ih1 _ _ _ _ _ _ _ _ _ _ _ _ _)
   | (with_reducible exact impl_IsZero.mono _ _)
   | (with_reducible exact impl_PoolOk.mono _ _ _ _ _ _ _ _ _ _)
   | (with_reducible exact LeO.refl _)
   | (with_reducible exact LeO.none _)
   | (with_reducible refine LeO.ite ?_ ?_)
   | (with_reducible refine LeO.bind ?_ (fun _ => ?_))
   | exact ih0 _ _ _ _ _ _ _ _ _ _ _ _ _ _ _
   | exact ih1 _ _ _ _ _ _ _ _ _ _ _ _ _
   | exact impl_IsZero.mono _ _
   | exact impl_PoolOk.mono _ _ _ _ _ _ _ _ _ _
   | exact LeO.none _
   | refine LeO.ite ?_ ?_
   | refine LeO.bind ?_ (fun _ => ?_)
set_option maxHeartbeats 8000000 in
set_option maxRecDepth 100000 in
theorem impl_WipeSome.calls (k : Nat) (a0_0 : Int) (a0_1 : Int) (a0_2 : Int) (a0_3 : Int) (a0_4 : Int) (a0_5 : Int) (A1_0 : Option Addr) (c1_0 : Nat) (l1_0 : List Int) (A1_1 : Option Addr) (c1_1 : Nat) (l1_1 : List Int) (A1_2 : Option Addr) (c1_2 : Nat) (l1_2 : List Int) (a2 : Int) (a3 : Int) (r1 : List Int) (r2 : List Int) (r3 : List Int) (r4 : Bool) (w : World) (hr1_0 : Kd.C (Kd.int .u8) w A1_0 l1_0.length l1_0) (hc1_0 : l1_0.length ≤ c1_0) (hr1_1 : Kd.C (Kd.int .i64) w A1_1 l1_1.length l1_1) (hc1_1 : l1_1.length ≤ c1_1) (hr1_2 : Kd.C (Kd.int .i64) w A1_2 l1_2.length l1_2) (hc1_2 : l1_2.length ≤ c1_2) (h : impl_WipeSome.f k a0_0 a0_1 a0_2 a0_3 a0_4 a0_5 l1_0 l1_1 l1_2 a2 a3 = some (r1, r2, r3, r4)) :
  Calls Try.prog 8 #[.agg #[.int .i64 a0_0, .int .i64 a0_1, .int .i64 a0_2, .int .i64 a0_3, .int .i64 a0_4, .int .i64 a0_5], .agg #[.slice A1_0 l1_0.length c1_0, .slice A1_1 l1_1.length c1_1, .slice A1_2 l1_2.length c1_2], .int .i64 a2, .int .i64 a3] w fun e w' => ∃ v0_ v1_ v2_ : Value, e = .returned (.tuple #[.agg #[v0_, v1_, v2_], .bool r4]) ∧ Kd.R (Kd.int .u8) 5 w' w.heap.size (fun _ => True) v0_ r1 ∧ Kd.R (Kd.int .i64) 3 w' w.heap.size (fun k_ => some k_ ≠ (v2_ : Value).ownBlock) v1_ r2 ∧ Kd.R (Kd.int .i64) 3 w' w.heap.size (fun k_ => some k_ ≠ (v1_ : Value).ownBlock) v2_ r3 ∧ Below w.heap.size w w' := by
 have hu32 := Try.underlying32
 have hu29 := Try.underlying29
 have HR1_0 := Aside0.mk hr1_0
 have HC1_0 := Aside0.mk hc1_0
 clear hr1_0 hc1_0
 have HR1_1 := Aside0.mk hr1_1
 have HC1_1 := Aside0.mk hc1_1
 clear hr1_1 hc1_1
 have HR1_2 := Aside0.mk hr1_2
 have HC1_2 := Aside0.mk hc1_2
 clear hr1_2 hc1_2
 have HB := Aside0.mk (Below.refl w.heap.size w)
 have H : ((impl_copyPool.f l1_0 l1_1 l1_2).bind fun bt256 => ((impl_PoolOk.f k a0_0 a0_1 a0_2 a0_3 a0_4 a0_5 l1_0 l1_1 l1_2).bind fun t266 => (if t266 = true then ((impl_within.f a2 0 (wrap64 (a0_0 - 1))).bind fun t267 => (if t267 = true then (if 0 ≤ a2 then (if a2 < (l1_1.length : Int) then (if (rd l1_1 a2) = 2 then ((impl_within.f a3 0 (wrap64 (a0_1 - 1))).bind fun t269 => (impl_WipeSome.j0 k a2 a3 (!t269) a0_0 a0_1 a0_2 a0_3 a0_4 a0_5 l1_0 l1_1 l1_2 bt256.1 bt256.2.1 bt256.2.2)) else (impl_WipeSome.j0 k a2 a3 true a0_0 a0_1 a0_2 a0_3 a0_4 a0_5 l1_0 l1_1 l1_2 bt256.1 bt256.2.1 bt256.2.2)) else (none)) else (none)) else (impl_WipeSome.j0 k a2 a3 true a0_0 a0_1 a0_2 a0_3 a0_4 a0_5 l1_0 l1_1 l1_2 bt256.1 bt256.2.1 bt256.2.2))) else (impl_WipeSome.j0 k a2 a3 true a0_0 a0_1 a0_2 a0_3 a0_4 a0_5 l1_0 l1_1 l1_2 bt256.1 bt256.2.1 bt256.2.2)))) = some (r1, r2, r3, r4) := h
 clear h
 replace H := Option.bind_eq_some_iff.mp H
 obtain ⟨⟨t256, t259, t262⟩, A50, H⟩ := H
 try dsimp only at H
 have A5 := Aside0.mk A50
 clear A50
 have HC6 := Aside0.mk H
 clear H
 go_enter Try.func8, Try.ntmps8
 go_upto_region 2 with (first | ((with_reducible refine gate_dst (N := 4) rfl ?_); refine box_ev 4 #[.int .i64 a0_0, .int .i64 a0_1, .int .i64 a0_2, .int .i64 a0_3, .int .i64 a0_4, .int .i64 a0_5] 32 ?_; intro gb253 hg w7 hbox hb; have BK253 := Aside0.mk (hbox); have GW253 := Aside0.mk ((q76t : w.heap.size ≤ gb253)); have GE253 := Aside0.mk ((q76t : w.heap.size ≤ gb253)); replace HB := Aside0.mk (below_step q102t hb); clear hb hbox hg) | ((with_reducible refine gate_dst (N := 5) rfl ?_); refine box_ev 5 #[.slice A1_0 l1_0.length c1_0, .slice A1_1 l1_1.length c1_1, .slice A1_2 l1_2.length c1_2] 29 ?_; intro gb254 hg w8 hbox hb; have BK254 := Aside0.mk (hbox); have GW254 := Aside0.mk ((by rw [hg]; exact (below_size q85t) : w.heap.size ≤ gb254)); have GE254 := Aside0.mk ((by rw [hg]; exact (below_size q85t) : w.heap.size ≤ gb254)); replace HB := Aside0.mk (below_step q85t hb); have NB253_254 := Aside0.mk ((by rw [hg]; exact Nat.ne_of_lt (blk_lt (qbk BK253)) : gb253 ≠ gb254)); have NB254_253 := Aside0.mk ((by rw [hg]; exact Nat.ne_of_gt (blk_lt (qbk BK253)) : gb254 ≠ gb253)); replace BK253 := blb BK253 hb; clear hb hbox hg) | ((with_reducible refine gate_dst (N := 8) rfl ?_); refine box_ev 8 #[.slice none 0 0, .slice none 0 0, .slice none 0 0] 29 ?_; intro gb255 hg w9 hbox hb; have BK255 := Aside0.mk (hbox); have GW255 := Aside0.mk ((by rw [hg]; exact (below_size q61t) : w.heap.size ≤ gb255)); have GE255 := Aside0.mk ((by rw [hg]; exact (below_size q61t) : w.heap.size ≤ gb255)); replace HB := Aside0.mk (below_step q61t hb); have NB253_255 := Aside0.mk ((by rw [hg]; exact Nat.ne_of_lt (blk_lt (qbk BK253)) : gb253 ≠ gb255)); have NB255_253 := Aside0.mk ((by rw [hg]; exact Nat.ne_of_gt (blk_lt (qbk BK253)) : gb255 ≠ gb253)); replace BK253 := blb BK253 hb; have NB254_255 := Aside0.mk ((by rw [hg]; exact Nat.ne_of_lt (blk_lt (qbk BK254)) : gb254 ≠ gb255)); have NB255_254 := Aside0.mk ((by rw [hg]; exact Nat.ne_of_gt (blk_lt (qbk BK254)) : gb255 ≠ gb254)); replace BK254 := blb BK254 hb; clear hb hbox hg; have hnb10 := NB254_253.out; have hnc10 := NB253_254.out; have hnb11 := NB254_255.out; have hnc11 := NB255_254.out; obtain ⟨hcz12_0, hcz12_1, hcz12_2⟩ := qc3 BK254.out; obtain ⟨hfz12_0, hfz12_1, hfz12_2⟩ := qf3 BK254.out) | ((with_reducible refine gate_callee (f := 22) rfl ?_); refine goesL_ (some 13) rfl rfl Try.func22 (by kernel_rfl) rfl #[.agg #[.slice A1_0 l1_0.length c1_0, .slice A1_1 l1_1.length c1_1, .slice A1_2 l1_2.length c1_2]] rfl q97t ?_; (with_reducible refine (impl_copyPool.calls _ _ l1_0 _ _ l1_1 _ _ l1_2 t256 t259 t262 _ ?side1 ?side2 ?side3 ?side4 ?side5 ?side6 A5.out).mono ?_); (case side1 => repeat (first | exact (Kd.C_below HR1_0.out HB.out) | (with_reducible refine Kd.C_alloc ?_ _) | (with_reducible refine Kd.C_drewN ?_ _) | (with_reducible refine Kd.C_drew ?_))); (case side2 => exact HC1_0.out); (case side3 => repeat (first | exact (Kd.C_below HR1_1.out HB.out) | (with_reducible refine Kd.C_alloc ?_ _) | (with_reducible refine Kd.C_drewN ?_ _) | (with_reducible refine Kd.C_drew ?_))); (case side4 => exact HC1_1.out); (case side5 => repeat (first | exact (Kd.C_below HR1_2.out HB.out) | (with_reducible refine Kd.C_alloc ?_ _) | (with_reducible refine Kd.C_drewN ?_ _) | (with_reducible refine Kd.C_drew ?_))); (case side6 => exact HC1_2.out); rintro e w13 ⟨v257, v260, v263, rfl, ho0, ho1, ho2, hb⟩; refine ⟨_, rfl, ?_⟩; have HO258 := Aside0.mk (Kd.R_lower ho0 (below_size q34t)); have HO261 := Aside0.mk (Kd.R_lower ho1 (below_size q34t)); have HO264 := Aside0.mk (Kd.R_lower ho2 (below_size q34t)); replace BK253 := blb BK253 hb; replace BK254 := blb BK254 hb; replace BK255 := blb BK255 hb; replace HB := Aside0.mk (below_step q34t hb); (try clear hb); (try clear hb2); (try clear hk); (try clear hi); (try clear ho0); (try clear ho1); (try clear ho2)) | ((with_reducible refine gate_dst (N := 10) rfl ?_); refine box_ev 10 #[.slice none 0 0, .slice none 0 0, .slice none 0 0] 29 ?_; intro gb265 hg w14 hbox hb; replace HO258 := Aside0.mk (Kd.R_below (by (with_reducible repeat (first | apply Kd.R_alloc | apply Kd.R_drewN | apply Kd.R_drew)); exact HO258.out) hb); replace HO261 := Aside0.mk (Kd.R_below (by (with_reducible repeat (first | apply Kd.R_alloc | apply Kd.R_drewN | apply Kd.R_drew)); exact HO261.out) hb); replace HO264 := Aside0.mk (Kd.R_below (by (with_reducible repeat (first | apply Kd.R_alloc | apply Kd.R_drewN | apply Kd.R_drew)); exact HO264.out) hb); have BK265 := Aside0.mk (hbox); have GW265 := Aside0.mk ((by rw [hg]; exact (below_size q34t) : w.heap.size ≤ gb265)); have GE265 := Aside0.mk ((by rw [hg]; exact (below_size q34t) : w.heap.size ≤ gb265)); replace HB := Aside0.mk (below_step q34t hb); have NB253_265 := Aside0.mk ((by rw [hg]; exact Nat.ne_of_lt (blk_lt (qbk BK253)) : gb253 ≠ gb265)); have NB265_253 := Aside0.mk ((by rw [hg]; exact Nat.ne_of_gt (blk_lt (qbk BK253)) : gb265 ≠ gb253)); replace BK253 := blb BK253 hb; have NB254_265 := Aside0.mk ((by rw [hg]; exact Nat.ne_of_lt (blk_lt (qbk BK254)) : gb254 ≠ gb265)); have NB265_254 := Aside0.mk ((by rw [hg]; exact Nat.ne_of_gt (blk_lt (qbk BK254)) : gb265 ≠ gb254)); replace BK254 := blb BK254 hb; have NB255_265 := Aside0.mk ((by rw [hg]; exact Nat.ne_of_lt (blk_lt (qbk BK255)) : gb255 ≠ gb265)); have NB265_255 := Aside0.mk ((by rw [hg]; exact Nat.ne_of_gt (blk_lt (qbk BK255)) : gb265 ≠ gb255)); replace BK255 := blb BK255 hb; clear hb hbox hg; obtain ⟨Ao15, co15, eo15⟩ := Kd.R_slice HO258.out; subst eo15; have hnb16 := NB265_253.out; have hnc16 := NB253_265.out; have hnb17 := NB265_254.out; have hnc17 := NB254_265.out; have hnb18 := NB265_255.out; have hnc18 := NB255_265.out; obtain ⟨hcz19_0, hcz19_1, hcz19_2⟩ := qc3 BK265.out; obtain ⟨hfz19_0, hfz19_1, hfz19_2⟩ := qf3 BK265.out; obtain ⟨Ao20, co20, eo20⟩ := Kd.R_slice HO261.out; subst eo20; obtain ⟨Ao21, co21, eo21⟩ := Kd.R_slice HO264.out; subst eo21))
 (try simp only [Act.put, List.setIfInBounds_toArray, List.set_cons_zero, List.set_cons_succ])
 go_cut [41] (fun v41 wc => ∃ (kq : Nat) (x41_5 : Bool), v41 = .bool x41_5 ∧ Aside0 (impl_WipeSome.j0 kq a2 a3 x41_5 a0_0 a0_1 a0_2 a0_3 a0_4 a0_5 l1_0 l1_1 l1_2 t256 t259 t262 = some (r1, r2, r3, r4)) ∧ Aside0 (kq ≤ k) ∧ Aside0 (Kd.R (Kd.int .u8) 5 wc w.heap.size (fun _ => True) (.slice Ao15 t256.length co15) t256) ∧ Aside0 (Kd.R (Kd.int .i64) 3 wc w.heap.size (fun k_ => some k_ ≠ ((.slice Ao21 t262.length co21) : Value).ownBlock) (.slice Ao20 t259.length co20) t259) ∧ Aside0 (Kd.R (Kd.int .i64) 3 wc w.heap.size (fun k_ => some k_ ≠ ((.slice Ao20 t259.length co20) : Value).ownBlock) (.slice Ao21 t262.length co21) t262) ∧ Aside0 (wc.heap[gb253]? = some (.cells #[.int .i64 a0_0, .int .i64 a0_1, .int .i64 a0_2, .int .i64 a0_3, .int .i64 a0_4, .int .i64 a0_5] 32 (0, 0))) ∧ Aside0 (wc.heap[gb254]? = some (.cells #[(.slice A1_0 l1_0.length c1_0), (.slice A1_1 l1_1.length c1_1), (.slice A1_2 l1_2.length c1_2)] 29 (0, 0))) ∧ Aside0 (wc.heap[gb255]? = some (.cells #[(.slice none 0 0), (.slice none 0 0), (.slice none 0 0)] 29 (0, 0))) ∧ Aside0 (wc.heap[gb265]? = some (.cells #[(.slice Ao15 t256.length co15), (.slice Ao20 t259.length co20), (.slice Ao21 t262.length co21)] 29 (0, 0))) ∧ Aside0 (Below w.heap.size w wc))
 case first =>
  have H := HC6.out
  clear HC6
  replace H := Option.bind_eq_some_iff.mp H
  obtain ⟨t266, A220, H⟩ := H
  try dsimp only at H
  have A22 := Aside0.mk A220
  clear A220
  by_cases c23 : t266 = true
  rotate_left
  ·replace c23 := Bool.eq_false_iff.mpr c23
   subst c23
   rw [if_neg (show ¬ (false = true) by decide)] at H
   have H' := Aside0.mk H
   clear H
   have hnb59 := NB253_254.out
   have hnc59 := NB254_253.out
   have hnb60 := NB253_255.out
   have hnc60 := NB255_253.out
   have hnb61 := NB253_265.out
   have hnc61 := NB265_253.out
   obtain ⟨hcz62_0, hcz62_1, hcz62_2, hcz62_3, hcz62_4, hcz62_5⟩ := qc6 BK253.out
   obtain ⟨hfz62_0, hfz62_1, hfz62_2, hfz62_3, hfz62_4, hfz62_5⟩ := qf6 BK253.out
   have hnb63 := NB254_255.out
   have hnc63 := NB255_254.out
   have hnb64 := NB254_265.out
   have hnc64 := NB265_254.out
   obtain ⟨hcz65_0, hcz65_1, hcz65_2⟩ := qc3 BK254.out
   obtain ⟨hfz65_0, hfz65_1, hfz65_2⟩ := qf3 BK254.out
   go_wp2_with (first | (go_at_call 26; (with_reducible refine (impl_Pool_chunk.calls (by assumption) q143t q143t).mono ?_); rintro e w' ⟨rfl, rfl⟩) | ((with_reducible refine gate_callee (f := 23) rfl ?_); refine goesL_ (some 16) rfl rfl Try.func23 (by kernel_rfl) rfl #[.agg #[.int .i64 a0_0, .int .i64 a0_1, .int .i64 a0_2, .int .i64 a0_3, .int .i64 a0_4, .int .i64 a0_5], .agg #[.slice A1_0 l1_0.length c1_0, .slice A1_1 l1_1.length c1_1, .slice A1_2 l1_2.length c1_2]] rfl q97t ?_; (with_reducible refine (impl_PoolOk.calls k a0_0 a0_1 a0_2 a0_3 a0_4 a0_5 _ _ l1_0 _ _ l1_1 _ _ l1_2 false _ ?side1 ?side2 ?side3 ?side4 ?side5 ?side6 A22.out).mono ?_); (case side1 => exact Kd.C_below HR1_0.out q29t); (case side2 => exact HC1_0.out); (case side3 => exact Kd.C_below HR1_1.out q29t); (case side4 => exact HC1_1.out); (case side5 => exact Kd.C_below HR1_2.out q29t); (case side6 => exact HC1_2.out); rintro e w66 ⟨rfl, hb⟩; refine ⟨_, rfl, ?_⟩; replace HO258 := Aside0.mk (Kd.R_below q68t hb); replace HO261 := Aside0.mk (Kd.R_below q69t hb); replace HO264 := Aside0.mk (Kd.R_below q70t hb); replace BK253 := Aside0.mk (blk_below (g := gb253) (o := .cells #[.int .i64 a0_0, .int .i64 a0_1, .int .i64 a0_2, .int .i64 a0_3, .int .i64 a0_4, .int .i64 a0_5] 32 (0, 0)) q3t hb); replace BK254 := Aside0.mk (blk_below (g := gb254) (o := .cells #[.slice A1_0 l1_0.length c1_0, .slice A1_1 l1_1.length c1_1, .slice A1_2 l1_2.length c1_2] 29 (0, 0)) q4t hb); replace BK255 := Aside0.mk (blk_below (g := gb255) (o := .cells #[.slice none 0 0, .slice none 0 0, .slice none 0 0] 29 (0, 0)) q5t hb); replace BK265 := blp BK265 hb; replace HB := Aside0.mk (below_step q29t hb); (try clear hb); (try clear hb2); (try clear hk); (try clear hi)))
   go_meet
   case rel => exact ⟨_, (true), q142t, H', ⟨by first | omega | exact Nat.le_refl _⟩, ⟨by (with_reducible repeat (first | apply Kd.R_alloc | apply Kd.R_drewN | apply Kd.R_drew)); exact HO258.out⟩, ⟨by (with_reducible repeat (first | apply Kd.R_alloc | apply Kd.R_drewN | apply Kd.R_drew)); exact HO261.out⟩, ⟨by (with_reducible repeat (first | apply Kd.R_alloc | apply Kd.R_drewN | apply Kd.R_drew)); exact HO264.out⟩, ⟨qbk BK253⟩, ⟨qbk BK254⟩, ⟨qbk BK255⟩, ⟨qbk BK265⟩, ⟨by repeat (first | (with_reducible first | exact HB.out | apply below_alloc | apply pw_below_drewN | apply below_drew1 | refine below_set ?_ GE253.out | refine below_set ?_ GE254.out | refine below_set ?_ GE255.out | refine below_set ?_ GE265.out) | exact HB.out)⟩⟩
  subst c23
  rw [if_pos rfl] at H
  replace H := Option.bind_eq_some_iff.mp H
  obtain ⟨t267, A240, H⟩ := H
  try dsimp only at H
  have A24 := Aside0.mk A240
  clear A240
  by_cases c25 : t267 = true
  ·subst c25
   rw [if_pos rfl] at H
   by_cases c26 : 0 ≤ a2
   rotate_left
   ·rw [if_neg c26] at H
    exact absurd H q145t
   rw [if_pos c26] at H
   have c26b0 : decide (0 ≤ a2) = true := decide_eq_true c26
   clear c26
   (first | rw [c26b0] | (simp only [i64_w, i32_w]; rw [c26b0]) | skip)
   by_cases c27 : a2 < (l1_1.length : Int)
   rotate_left
   ·rw [if_neg c27] at H
    exact absurd H q145t
   rw [if_pos c27] at H
   have c27b0 : decide (a2 < (l1_1.length : Int)) = true := decide_eq_true c27
   clear c27
   by_cases c28 : (rd l1_1 a2) = 2
   ·rw [if_pos c28] at H
    have c28b0 : ((rd l1_1 a2) == 2) = true := beq_iff_eq.mpr c28
    have c28b1 : ((rd l1_1 a2) != 2) = false := bne_eq_false_iff_eq.mpr c28
    clear c28
    replace H := Option.bind_eq_some_iff.mp H
    obtain ⟨t269, A290, H⟩ := H
    try dsimp only at H
    have A29 := Aside0.mk A290
    clear A290
    have H' := Aside0.mk H
    clear H
    have hnb30 := NB253_254.out
    have hnc30 := NB254_253.out
    have hnb31 := NB253_255.out
    have hnc31 := NB255_253.out
    have hnb32 := NB253_265.out
    have hnc32 := NB265_253.out
    obtain ⟨hcz33_0, hcz33_1, hcz33_2, hcz33_3, hcz33_4, hcz33_5⟩ := qc6 BK253.out
    obtain ⟨hfz33_0, hfz33_1, hfz33_2, hfz33_3, hfz33_4, hfz33_5⟩ := qf6 BK253.out
    have hnb34 := NB254_255.out
    have hnc34 := NB255_254.out
    have hnb35 := NB254_265.out
    have hnc35 := NB265_254.out
    obtain ⟨hcz36_0, hcz36_1, hcz36_2⟩ := qc3 BK254.out
    obtain ⟨hfz36_0, hfz36_1, hfz36_2⟩ := qf3 BK254.out
    go_wp2_with (first | (go_at_call 26; (with_reducible refine (impl_Pool_chunk.calls (by assumption) q143t q143t).mono ?_); rintro e w' ⟨rfl, rfl⟩) | ((with_reducible refine gate_callee (f := 23) rfl ?_); refine goesL_ (some 16) rfl rfl Try.func23 (by kernel_rfl) rfl #[.agg #[.int .i64 a0_0, .int .i64 a0_1, .int .i64 a0_2, .int .i64 a0_3, .int .i64 a0_4, .int .i64 a0_5], .agg #[.slice A1_0 l1_0.length c1_0, .slice A1_1 l1_1.length c1_1, .slice A1_2 l1_2.length c1_2]] rfl q97t ?_; (with_reducible refine (impl_PoolOk.calls k a0_0 a0_1 a0_2 a0_3 a0_4 a0_5 _ _ l1_0 _ _ l1_1 _ _ l1_2 true _ ?side1 ?side2 ?side3 ?side4 ?side5 ?side6 A22.out).mono ?_); (case side1 => exact Kd.C_below HR1_0.out q29t); (case side2 => exact HC1_0.out); (case side3 => exact Kd.C_below HR1_1.out q29t); (case side4 => exact HC1_1.out); (case side5 => exact Kd.C_below HR1_2.out q29t); (case side6 => exact HC1_2.out); rintro e w37 ⟨rfl, hb⟩; refine ⟨_, rfl, ?_⟩; replace HO258 := Aside0.mk (Kd.R_below q68t hb); replace HO261 := Aside0.mk (Kd.R_below q69t hb); replace HO264 := Aside0.mk (Kd.R_below q70t hb); replace BK253 := Aside0.mk (blk_below (g := gb253) (o := .cells #[.int .i64 a0_0, .int .i64 a0_1, .int .i64 a0_2, .int .i64 a0_3, .int .i64 a0_4, .int .i64 a0_5] 32 (0, 0)) q3t hb); replace BK254 := Aside0.mk (blk_below (g := gb254) (o := .cells #[.slice A1_0 l1_0.length c1_0, .slice A1_1 l1_1.length c1_1, .slice A1_2 l1_2.length c1_2] 29 (0, 0)) q4t hb); replace BK255 := Aside0.mk (blk_below (g := gb255) (o := .cells #[.slice none 0 0, .slice none 0 0, .slice none 0 0] 29 (0, 0)) q5t hb); replace BK265 := blp BK265 hb; replace HB := Aside0.mk (below_step q29t hb); (try clear hb); (try clear hb2); (try clear hk); (try clear hi); obtain ⟨hcz38_0, hcz38_1, hcz38_2, hcz38_3, hcz38_4, hcz38_5⟩ := qc6 BK253.out; obtain ⟨hfz38_0, hfz38_1, hfz38_2, hfz38_3, hfz38_4, hfz38_5⟩ := qf6 BK253.out) | (go_at_call 24; (with_reducible refine (impl_within.calls a2 0 (wrap64 (a0_0 - 1)) true _ A24.out).mono ?_); rintro e w' ⟨rfl, ⟨nd, rfl⟩⟩; obtain ⟨hcz39_0, hcz39_1, hcz39_2⟩ := qc3 BK254.out; obtain ⟨hfz39_0, hfz39_1, hfz39_2⟩ := qf3 BK254.out; have p268 : 0 ≤ (a2 : Int) := of_decide_eq_true q133t; have q268 : a2 < (l1_1.length : Int) := of_decide_eq_true q133t; obtain ⟨ad268, e268, hx268_0⟩ := Kd.at_int HR1_1.out a2 p268 q268; cases e268; replace hx268_0 := hbt HB hx268_0; replace p268 := eq_true p268; replace q268 := eq_true q268) | (go_at_call 24; (with_reducible refine (impl_within.calls a3 0 (wrap64 (a0_1 - 1)) t269 _ A29.out).mono ?_); rintro e w' ⟨rfl, ⟨nd, rfl⟩⟩))
    go_meet
    case rel => exact ⟨_, (!t269), q142t, H', ⟨by first | omega | exact Nat.le_refl _⟩, ⟨by (with_reducible repeat (first | apply Kd.R_alloc | apply Kd.R_drewN | apply Kd.R_drew)); exact HO258.out⟩, ⟨by (with_reducible repeat (first | apply Kd.R_alloc | apply Kd.R_drewN | apply Kd.R_drew)); exact HO261.out⟩, ⟨by (with_reducible repeat (first | apply Kd.R_alloc | apply Kd.R_drewN | apply Kd.R_drew)); exact HO264.out⟩, ⟨qbk BK253⟩, ⟨qbk BK254⟩, ⟨qbk BK255⟩, ⟨qbk BK265⟩, ⟨by repeat (first | (with_reducible first | exact HB.out | apply below_alloc | apply pw_below_drewN | apply below_drew1 | refine below_set ?_ GE253.out | refine below_set ?_ GE254.out | refine below_set ?_ GE255.out | refine below_set ?_ GE265.out) | exact HB.out)⟩⟩
   rw [if_neg c28] at H
   have c28b0 : ((rd l1_1 a2) == 2) = false := beq_eq_false_iff_ne.mpr c28
   have c28b1 : ((rd l1_1 a2) != 2) = true := bne_iff_ne.mpr c28
   have H' := Aside0.mk H
   clear H
   have hnb40 := NB253_254.out
   have hnc40 := NB254_253.out
   have hnb41 := NB253_255.out
   have hnc41 := NB255_253.out
   have hnb42 := NB253_265.out
   have hnc42 := NB265_253.out
   obtain ⟨hcz43_0, hcz43_1, hcz43_2, hcz43_3, hcz43_4, hcz43_5⟩ := qc6 BK253.out
   obtain ⟨hfz43_0, hfz43_1, hfz43_2, hfz43_3, hfz43_4, hfz43_5⟩ := qf6 BK253.out
   have hnb44 := NB254_255.out
   have hnc44 := NB255_254.out
   have hnb45 := NB254_265.out
   have hnc45 := NB265_254.out
   obtain ⟨hcz46_0, hcz46_1, hcz46_2⟩ := qc3 BK254.out
   obtain ⟨hfz46_0, hfz46_1, hfz46_2⟩ := qf3 BK254.out
   go_wp2_with (first | (go_at_call 26; (with_reducible refine (impl_Pool_chunk.calls (by assumption) q143t q143t).mono ?_); rintro e w' ⟨rfl, rfl⟩) | ((with_reducible refine gate_callee (f := 23) rfl ?_); refine goesL_ (some 16) rfl rfl Try.func23 (by kernel_rfl) rfl #[.agg #[.int .i64 a0_0, .int .i64 a0_1, .int .i64 a0_2, .int .i64 a0_3, .int .i64 a0_4, .int .i64 a0_5], .agg #[.slice A1_0 l1_0.length c1_0, .slice A1_1 l1_1.length c1_1, .slice A1_2 l1_2.length c1_2]] rfl q97t ?_; (with_reducible refine (impl_PoolOk.calls k a0_0 a0_1 a0_2 a0_3 a0_4 a0_5 _ _ l1_0 _ _ l1_1 _ _ l1_2 true _ ?side1 ?side2 ?side3 ?side4 ?side5 ?side6 A22.out).mono ?_); (case side1 => exact Kd.C_below HR1_0.out q29t); (case side2 => exact HC1_0.out); (case side3 => exact Kd.C_below HR1_1.out q29t); (case side4 => exact HC1_1.out); (case side5 => exact Kd.C_below HR1_2.out q29t); (case side6 => exact HC1_2.out); rintro e w47 ⟨rfl, hb⟩; refine ⟨_, rfl, ?_⟩; replace HO258 := Aside0.mk (Kd.R_below q68t hb); replace HO261 := Aside0.mk (Kd.R_below q69t hb); replace HO264 := Aside0.mk (Kd.R_below q70t hb); replace BK253 := Aside0.mk (blk_below (g := gb253) (o := .cells #[.int .i64 a0_0, .int .i64 a0_1, .int .i64 a0_2, .int .i64 a0_3, .int .i64 a0_4, .int .i64 a0_5] 32 (0, 0)) q3t hb); replace BK254 := Aside0.mk (blk_below (g := gb254) (o := .cells #[.slice A1_0 l1_0.length c1_0, .slice A1_1 l1_1.length c1_1, .slice A1_2 l1_2.length c1_2] 29 (0, 0)) q4t hb); replace BK255 := Aside0.mk (blk_below (g := gb255) (o := .cells #[.slice none 0 0, .slice none 0 0, .slice none 0 0] 29 (0, 0)) q5t hb); replace BK265 := blp BK265 hb; replace HB := Aside0.mk (below_step q29t hb); (try clear hb); (try clear hb2); (try clear hk); (try clear hi); obtain ⟨hcz48_0, hcz48_1, hcz48_2, hcz48_3, hcz48_4, hcz48_5⟩ := qc6 BK253.out; obtain ⟨hfz48_0, hfz48_1, hfz48_2, hfz48_3, hfz48_4, hfz48_5⟩ := qf6 BK253.out) | (go_at_call 24; (with_reducible refine (impl_within.calls a2 0 (wrap64 (a0_0 - 1)) true _ A24.out).mono ?_); rintro e w' ⟨rfl, ⟨nd, rfl⟩⟩; obtain ⟨hcz49_0, hcz49_1, hcz49_2⟩ := qc3 BK254.out; obtain ⟨hfz49_0, hfz49_1, hfz49_2⟩ := qf3 BK254.out; have p268 : 0 ≤ (a2 : Int) := of_decide_eq_true q133t; have q268 : a2 < (l1_1.length : Int) := of_decide_eq_true q133t; obtain ⟨ad268, e268, hx268_0⟩ := Kd.at_int HR1_1.out a2 p268 q268; cases e268; replace hx268_0 := hbt HB hx268_0; replace p268 := eq_true p268; replace q268 := eq_true q268))
   go_meet
   case rel => exact ⟨_, (true), q142t, H', ⟨by first | omega | exact Nat.le_refl _⟩, ⟨by (with_reducible repeat (first | apply Kd.R_alloc | apply Kd.R_drewN | apply Kd.R_drew)); exact HO258.out⟩, ⟨by (with_reducible repeat (first | apply Kd.R_alloc | apply Kd.R_drewN | apply Kd.R_drew)); exact HO261.out⟩, ⟨by (with_reducible repeat (first | apply Kd.R_alloc | apply Kd.R_drewN | apply Kd.R_drew)); exact HO264.out⟩, ⟨qbk BK253⟩, ⟨qbk BK254⟩, ⟨qbk BK255⟩, ⟨qbk BK265⟩, ⟨by repeat (first | (with_reducible first | exact HB.out | apply below_alloc | apply pw_below_drewN | apply below_drew1 | refine below_set ?_ GE253.out | refine below_set ?_ GE254.out | refine below_set ?_ GE255.out | refine below_set ?_ GE265.out) | exact HB.out)⟩⟩
  replace c25 := Bool.eq_false_iff.mpr c25
  subst c25
  rw [if_neg (show ¬ (false = true) by decide)] at H
  have H' := Aside0.mk H
  clear H
  have hnb50 := NB253_254.out
  have hnc50 := NB254_253.out
  have hnb51 := NB253_255.out
  have hnc51 := NB255_253.out
  have hnb52 := NB253_265.out
  have hnc52 := NB265_253.out
  obtain ⟨hcz53_0, hcz53_1, hcz53_2, hcz53_3, hcz53_4, hcz53_5⟩ := qc6 BK253.out
  obtain ⟨hfz53_0, hfz53_1, hfz53_2, hfz53_3, hfz53_4, hfz53_5⟩ := qf6 BK253.out
  have hnb54 := NB254_255.out
  have hnc54 := NB255_254.out
  have hnb55 := NB254_265.out
  have hnc55 := NB265_254.out
  obtain ⟨hcz56_0, hcz56_1, hcz56_2⟩ := qc3 BK254.out
  obtain ⟨hfz56_0, hfz56_1, hfz56_2⟩ := qf3 BK254.out
  go_wp2_with (first | (go_at_call 26; (with_reducible refine (impl_Pool_chunk.calls (by assumption) q143t q143t).mono ?_); rintro e w' ⟨rfl, rfl⟩) | ((with_reducible refine gate_callee (f := 23) rfl ?_); refine goesL_ (some 16) rfl rfl Try.func23 (by kernel_rfl) rfl #[.agg #[.int .i64 a0_0, .int .i64 a0_1, .int .i64 a0_2, .int .i64 a0_3, .int .i64 a0_4, .int .i64 a0_5], .agg #[.slice A1_0 l1_0.length c1_0, .slice A1_1 l1_1.length c1_1, .slice A1_2 l1_2.length c1_2]] rfl q97t ?_; (with_reducible refine (impl_PoolOk.calls k a0_0 a0_1 a0_2 a0_3 a0_4 a0_5 _ _ l1_0 _ _ l1_1 _ _ l1_2 true _ ?side1 ?side2 ?side3 ?side4 ?side5 ?side6 A22.out).mono ?_); (case side1 => exact Kd.C_below HR1_0.out q29t); (case side2 => exact HC1_0.out); (case side3 => exact Kd.C_below HR1_1.out q29t); (case side4 => exact HC1_1.out); (case side5 => exact Kd.C_below HR1_2.out q29t); (case side6 => exact HC1_2.out); rintro e w57 ⟨rfl, hb⟩; refine ⟨_, rfl, ?_⟩; replace HO258 := Aside0.mk (Kd.R_below q68t hb); replace HO261 := Aside0.mk (Kd.R_below q69t hb); replace HO264 := Aside0.mk (Kd.R_below q70t hb); replace BK253 := Aside0.mk (blk_below (g := gb253) (o := .cells #[.int .i64 a0_0, .int .i64 a0_1, .int .i64 a0_2, .int .i64 a0_3, .int .i64 a0_4, .int .i64 a0_5] 32 (0, 0)) q3t hb); replace BK254 := Aside0.mk (blk_below (g := gb254) (o := .cells #[.slice A1_0 l1_0.length c1_0, .slice A1_1 l1_1.length c1_1, .slice A1_2 l1_2.length c1_2] 29 (0, 0)) q4t hb); replace BK255 := Aside0.mk (blk_below (g := gb255) (o := .cells #[.slice none 0 0, .slice none 0 0, .slice none 0 0] 29 (0, 0)) q5t hb); replace BK265 := blp BK265 hb; replace HB := Aside0.mk (below_step q29t hb); (try clear hb); (try clear hb2); (try clear hk); (try clear hi); obtain ⟨hcz58_0, hcz58_1, hcz58_2, hcz58_3, hcz58_4, hcz58_5⟩ := qc6 BK253.out; obtain ⟨hfz58_0, hfz58_1, hfz58_2, hfz58_3, hfz58_4, hfz58_5⟩ := qf6 BK253.out) | (go_at_call 24; (with_reducible refine (impl_within.calls a2 0 (wrap64 (a0_0 - 1)) false _ A24.out).mono ?_); rintro e w' ⟨rfl, ⟨nd, rfl⟩⟩))
  go_meet
  case rel => exact ⟨_, (true), q142t, H', ⟨by first | omega | exact Nat.le_refl _⟩, ⟨by (with_reducible repeat (first | apply Kd.R_alloc | apply Kd.R_drewN | apply Kd.R_drew)); exact HO258.out⟩, ⟨by (with_reducible repeat (first | apply Kd.R_alloc | apply Kd.R_drewN | apply Kd.R_drew)); exact HO261.out⟩, ⟨by (with_reducible repeat (first | apply Kd.R_alloc | apply Kd.R_drewN | apply Kd.R_drew)); exact HO264.out⟩, ⟨qbk BK253⟩, ⟨qbk BK254⟩, ⟨qbk BK255⟩, ⟨qbk BK265⟩, ⟨by repeat (first | (with_reducible first | exact HB.out | apply below_alloc | apply pw_below_drewN | apply below_drew1 | refine below_set ?_ GE253.out | refine below_set ?_ GE254.out | refine below_set ?_ GE255.out | refine below_set ?_ GE265.out) | exact HB.out)⟩⟩
 case rest =>
  clear HC6
  try clear c1
  try clear c2
  try clear p2
  try clear q2
  try clear hx2
  try clear c3
  try clear c4
  try clear c5
  try clear c6
  try clear p6
  try clear c8
  try clear c10
  try clear c11
  try clear c16
  try clear c17
  try clear c18
  try clear c22
  try clear c23
  try clear c25
  try clear c26
  try clear c26b0
  try clear p26
  try clear q26
  try clear hx26
  try clear c27
  try clear c27b0
  try clear c28
  try clear c28b0
  try clear c28b1
  try clear c30
  try clear c31
  try clear c32
  try clear c34
  try clear c35
  try clear c40
  try clear c41
  try clear c42
  try clear c44
  try clear c45
  try clear c50
  try clear c51
  try clear c52
  try clear c54
  try clear c55
  try clear c59
  try clear c60
  try clear c61
  try clear c63
  try clear c64
  try clear p64
  try clear hcz12_0 hcz12_1 hcz12_2
  try clear hcz19_0 hcz19_1 hcz19_2
  try clear hcz33_0 hcz33_1 hcz33_2 hcz33_3 hcz33_4 hcz33_5
  try clear hcz36_0 hcz36_1 hcz36_2
  try clear hcz38_0 hcz38_1 hcz38_2 hcz38_3 hcz38_4 hcz38_5
  try clear hcz39_0 hcz39_1 hcz39_2
  try clear hcz43_0 hcz43_1 hcz43_2 hcz43_3 hcz43_4 hcz43_5
  try clear hcz46_0 hcz46_1 hcz46_2
  try clear hcz48_0 hcz48_1 hcz48_2 hcz48_3 hcz48_4 hcz48_5
  try clear hcz49_0 hcz49_1 hcz49_2
  try clear hcz53_0 hcz53_1 hcz53_2 hcz53_3 hcz53_4 hcz53_5
  try clear hcz56_0 hcz56_1 hcz56_2
  try clear hcz58_0 hcz58_1 hcz58_2 hcz58_3 hcz58_4 hcz58_5
  try clear hcz62_0 hcz62_1 hcz62_2 hcz62_3 hcz62_4 hcz62_5
  try clear hcz65_0 hcz65_1 hcz65_2
  try clear hfz12_0 hfz12_1 hfz12_2
  try clear hfz19_0 hfz19_1 hfz19_2
  try clear hfz33_0 hfz33_1 hfz33_2 hfz33_3 hfz33_4 hfz33_5
  try clear hfz36_0 hfz36_1 hfz36_2
  try clear hfz38_0 hfz38_1 hfz38_2 hfz38_3 hfz38_4 hfz38_5
  try clear hfz39_0 hfz39_1 hfz39_2
  try clear hfz43_0 hfz43_1 hfz43_2 hfz43_3 hfz43_4 hfz43_5
  try clear hfz46_0 hfz46_1 hfz46_2
  try clear hfz48_0 hfz48_1 hfz48_2 hfz48_3 hfz48_4 hfz48_5
  try clear hfz49_0 hfz49_1 hfz49_2
  try clear hfz53_0 hfz53_1 hfz53_2 hfz53_3 hfz53_4 hfz53_5
  try clear hfz56_0 hfz56_1 hfz56_2
  try clear hfz58_0 hfz58_1 hfz58_2 hfz58_3 hfz58_4 hfz58_5
  try clear hfz62_0 hfz62_1 hfz62_2 hfz62_3 hfz62_4 hfz62_5
  try clear hfz65_0 hfz65_1 hfz65_2
  try clear hx268_0
  try clear p268
  try clear q268
  obtain ⟨kq, x41_5, rfl, HA, HJ5, HO_266000, HO_266001, HO_266002, BK253, BK254, BK255, BK265, HB⟩ := hcut
  cases kq with
  | zero => exact absurd HA.out (by simp [impl_WipeSome.j0])
  | succ kj5 =>
   have H := HA.out
   clear HA
   simp only [impl_WipeSome.j0] at H
   by_cases c67 : x41_5 = true
   ·subst c67
    rw [if_pos rfl] at H
    simp only [Option.some.injEq, Prod.mk.injEq] at H
    obtain ⟨rfl, rfl, rfl, rfl⟩ := H
    have hnb68 := NB265_253.out
    have hnc68 := NB253_265.out
    have hnb69 := NB265_254.out
    have hnc69 := NB254_265.out
    have hnb70 := NB265_255.out
    have hnc70 := NB255_265.out
    obtain ⟨hcz71_0, hcz71_1, hcz71_2⟩ := qc3 BK265.out
    obtain ⟨hfz71_0, hfz71_1, hfz71_2⟩ := qf3 BK265.out
    have hnb72 := NB255_253.out
    have hnc72 := NB253_255.out
    have hnb73 := NB255_254.out
    have hnc73 := NB254_255.out
    obtain ⟨hcz74_0, hcz74_1, hcz74_2⟩ := qc3 BK255.out
    obtain ⟨hfz74_0, hfz74_1, hfz74_2⟩ := qf3 BK255.out
    go_wp2_with (go_at_call 26; (with_reducible refine (impl_Pool_chunk.calls (by assumption) q143t q143t).mono ?_); rintro e w' ⟨rfl, rfl⟩)
    refine bodyPost_ret (results_ct rfl _ _ gb255 29 #[.slice Ao15 t256.length co15, .slice Ao20 t259.length co20, .slice Ao21 t262.length co21] (0, 0) _ rfl (qbp BK255) Try.underlying29 rfl (by kernel_rfl)) rfl ?_
    exact ⟨_, _, _, by first | rfl | (simp [errW_none, errW_some] <;> rfl) | (simp [*, errW_none, errW_some] <;> rfl), by (with_reducible repeat (first | apply Kd.R_alloc | apply Kd.R_drewN | apply Kd.R_drew)); exact Kd.R_mono (rkf (rkf (rkf (Kd.R_types HO_266000.out BK255.out q144t)))) (fun _ hk => trivial), by (with_reducible repeat (first | apply Kd.R_alloc | apply Kd.R_drewN | apply Kd.R_drew)); exact Kd.R_mono (rkf (rkf (rkf (Kd.R_types HO_266001.out BK255.out q144t)))) (fun _ hk => hk.1), by (with_reducible repeat (first | apply Kd.R_alloc | apply Kd.R_drewN | apply Kd.R_drew)); exact Kd.R_mono (rkf (rkf (rkf (Kd.R_types HO_266002.out BK255.out q144t)))) (fun _ hk => hk.1), by repeat (first | (with_reducible first | exact HB.out | apply below_alloc | apply pw_below_drewN | apply below_drew1 | refine below_set ?_ GE253.out | refine below_set ?_ GE254.out | refine below_set ?_ GE255.out | refine below_set ?_ GE265.out) | exact HB.out)⟩
   replace c67 := Bool.eq_false_iff.mpr c67
   subst c67
   rw [if_neg (show ¬ (false = true) by decide)] at H
   have HC75 := Aside0.mk H
   clear H
   have hnb76 := NB253_254.out
   have hnc76 := NB254_253.out
   have hnb77 := NB253_255.out
   have hnc77 := NB255_253.out
   have hnb78 := NB253_265.out
   have hnc78 := NB265_253.out
   obtain ⟨hcz79_0, hcz79_1, hcz79_2, hcz79_3, hcz79_4, hcz79_5⟩ := qc6 BK253.out
   obtain ⟨hfz79_0, hfz79_1, hfz79_2, hfz79_3, hfz79_4, hfz79_5⟩ := qf6 BK253.out
   go_upto_region 5 with (fail)
   go_cut [11, 60] (fun v11 v60 wc => ∃ (kq : Nat) (x60_74 : Bool), v11 = .bool (decide (a0_1 ≤ (wrap64 (a3 + a0_4)))) ∧ v60 = .bool x60_74 ∧ Aside0 (impl_WipeSome.j1 kq a2 a3 (decide ((wrap64 (a3 + a0_4)) ≥ a0_1)) x60_74 a0_0 a0_1 a0_2 a0_3 a0_4 a0_5 t256 t259 t262 = some (r1, r2, r3, r4)) ∧ Aside0 (kq ≤ kj5) ∧ Aside0 (Kd.R (Kd.int .u8) 5 wc w.heap.size (fun _ => True) (.slice Ao15 t256.length co15) t256) ∧ Aside0 (Kd.R (Kd.int .i64) 3 wc w.heap.size (fun k_ => some k_ ≠ ((.slice Ao21 t262.length co21) : Value).ownBlock) (.slice Ao20 t259.length co20) t259) ∧ Aside0 (Kd.R (Kd.int .i64) 3 wc w.heap.size (fun k_ => some k_ ≠ ((.slice Ao20 t259.length co20) : Value).ownBlock) (.slice Ao21 t262.length co21) t262) ∧ Aside0 (wc.heap[gb253]? = some (.cells #[.int .i64 a0_0, .int .i64 a0_1, .int .i64 a0_2, .int .i64 a0_3, .int .i64 a0_4, .int .i64 a0_5] 32 (0, 0))) ∧ Aside0 (wc.heap[gb254]? = some (.cells #[(.slice A1_0 l1_0.length c1_0), (.slice A1_1 l1_1.length c1_1), (.slice A1_2 l1_2.length c1_2)] 29 (0, 0))) ∧ Aside0 (wc.heap[gb255]? = some (.cells #[(.slice none 0 0), (.slice none 0 0), (.slice none 0 0)] 29 (0, 0))) ∧ Aside0 (wc.heap[gb265]? = some (.cells #[(.slice Ao15 t256.length co15), (.slice Ao20 t259.length co20), (.slice Ao21 t262.length co21)] 29 (0, 0))) ∧ Aside0 (Below w.heap.size w wc))
   case first =>
    have H := HC75.out
    clear HC75
    by_cases c80 : (wrap64 (a3 + a0_4)) ≥ a0_1
    rotate_left
    ·rw [if_neg c80] at H
     have c80b0 : decide (a0_1 ≤ (wrap64 (a3 + a0_4))) = false := decide_eq_false c80
     clear c80
     (first | rw [c80b0] | (simp only [i64_w, i32_w]; rw [c80b0]) | skip)
     have H' := Aside0.mk H
     clear H
     go_wp2_with (go_at_call 26; (with_reducible refine (impl_Pool_chunk.calls (by assumption) q143t q143t).mono ?_); rintro e w' ⟨rfl, rfl⟩)
     go_meet
     case rel => exact ⟨_, (false), (by first | rfl | (rw [show decide (a0_1 ≤ (wrap64 (a3 + a0_4))) = _ from by assumption])), q142t, H', ⟨by have := HJ5.out; first | omega | exact Nat.le_refl _⟩, ⟨by (with_reducible repeat (first | apply Kd.R_alloc | apply Kd.R_drewN | apply Kd.R_drew)); exact HO_266000.out⟩, ⟨by (with_reducible repeat (first | apply Kd.R_alloc | apply Kd.R_drewN | apply Kd.R_drew)); exact HO_266001.out⟩, ⟨by (with_reducible repeat (first | apply Kd.R_alloc | apply Kd.R_drewN | apply Kd.R_drew)); exact HO_266002.out⟩, ⟨qbk BK253⟩, ⟨qbk BK254⟩, ⟨qbk BK255⟩, ⟨qbk BK265⟩, ⟨by repeat (first | (with_reducible first | exact HB.out | apply below_alloc | apply pw_below_drewN | apply below_drew1 | refine below_set ?_ GE253.out | refine below_set ?_ GE254.out | refine below_set ?_ GE255.out | refine below_set ?_ GE265.out) | exact HB.out)⟩⟩
    rw [if_pos c80] at H
    have c80b0 : decide (a0_1 ≤ (wrap64 (a3 + a0_4))) = true := decide_eq_true c80
    clear c80
    (first | rw [c80b0] | (simp only [i64_w, i32_w]; rw [c80b0]) | skip)
    obtain ⟨ji81, hji81⟩ : ∃ j_ : Int, (wrap64 (a2 * a0_1)) = j_ := ⟨_, rfl⟩
    replace H : (if 0 ≤ (ji81) then (if (ji81) ≤ (wrap64 ((wrap64 (a2 + 1)) * a0_1)) then (if (wrap64 ((wrap64 (a2 + 1)) * a0_1)) ≤ (l1_0.length : Int) then (if 0 ≤ a3 then (if a3 ≤ (((l1_0.take ((wrap64 ((wrap64 (a2 + 1)) * a0_1)) : Int).toNat).drop ((ji81) : Int).toNat).length : Int) then ((impl_IsZero.f kj5 (((l1_0.take ((wrap64 ((wrap64 (a2 + 1)) * a0_1)) : Int).toNat).drop ((ji81) : Int).toNat).take (a3 : Int).toNat)).bind fun t272 => (impl_WipeSome.j1 kj5 a2 a3 (decide ((wrap64 (a3 + a0_4)) ≥ a0_1)) (!t272) a0_0 a0_1 a0_2 a0_3 a0_4 a0_5 t256 t259 t262)) else (none)) else (none)) else (none)) else (none)) else (none)) = some (r1, r2, r3, r4) := by first | (rw [hji81] at H; exact H) | (simp only [hji81] at H ⊢; exact H)
    have hji81w : (IntKind.i64.wrap (a2 * a0_1)) = ji81 := (i64_w _).trans hji81
    by_cases c82 : 0 ≤ (ji81)
    rotate_left
    ·rw [if_neg c82] at H
     exact absurd H q145t
    rw [if_pos c82] at H
    have c82b0 := eq_true c82
    have c82b1 : decide (0 ≤ (ji81)) = true := decide_eq_true c82
    clear c82
    by_cases c83 : (ji81) ≤ (wrap64 ((wrap64 (a2 + 1)) * a0_1))
    rotate_left
    ·rw [if_neg c83] at H
     exact absurd H q145t
    rw [if_pos c83] at H
    have c83b0 := eq_true c83
    have c83b1 : decide ((ji81) ≤ (wrap64 ((wrap64 (a2 + 1)) * a0_1))) = true := decide_eq_true c83
    by_cases c84 : (wrap64 ((wrap64 (a2 + 1)) * a0_1)) ≤ (l1_0.length : Int)
    rotate_left
    ·rw [if_neg c84] at H
     exact absurd H q145t
    rw [if_pos c84] at H
    have c84b0 := eq_true c84
    have c84b1 : decide ((wrap64 ((wrap64 (a2 + 1)) * a0_1)) ≤ (l1_0.length : Int)) = true := decide_eq_true c84
    by_cases c85 : 0 ≤ a3
    rotate_left
    ·rw [if_neg c85] at H
     exact absurd H q145t
    rw [if_pos c85] at H
    have c85b0 := eq_true c85
    have c85b1 : decide (0 ≤ a3) = true := decide_eq_true c85
    clear c85
    by_cases c86 : a3 ≤ (((l1_0.take ((wrap64 ((wrap64 (a2 + 1)) * a0_1)) : Int).toNat).drop ((ji81) : Int).toNat).length : Int)
    rotate_left
    ·rw [if_neg c86] at H
     exact absurd H q145t
    rw [if_pos c86] at H
    have c86b0 := eq_true c86
    have c86b1 : decide (a3 ≤ (((l1_0.take ((wrap64 ((wrap64 (a2 + 1)) * a0_1)) : Int).toNat).drop ((ji81) : Int).toNat).length : Int)) = true := decide_eq_true c86
    replace H := Option.bind_eq_some_iff.mp H
    obtain ⟨t272, A870, H⟩ := H
    try dsimp only at H
    have A87 := Aside0.mk A870
    clear A870
    have H' := Aside0.mk H
    clear H
    have hnb88 := NB254_253.out
    have hnc88 := NB253_254.out
    have hnb89 := NB254_255.out
    have hnc89 := NB255_254.out
    have hnb90 := NB254_265.out
    have hnc90 := NB265_254.out
    obtain ⟨hcz91_0, hcz91_1, hcz91_2⟩ := qc3 BK254.out
    obtain ⟨hfz91_0, hfz91_1, hfz91_2⟩ := qf3 BK254.out
    have hnb92 := NB253_255.out
    have hnc92 := NB255_253.out
    have hnb93 := NB253_265.out
    have hnc93 := NB265_253.out
    obtain ⟨hcz94_0, hcz94_1, hcz94_2, hcz94_3, hcz94_4, hcz94_5⟩ := qc6 BK253.out
    obtain ⟨hfz94_0, hfz94_1, hfz94_2, hfz94_3, hfz94_4, hfz94_5⟩ := qf6 BK253.out
    obtain ⟨i095, hi095, _, hsz95, _⟩ := info_parts info5
    obtain ⟨A95, hcut95, hA95, hC95⟩ := print_mid_of (P := Try.prog) (Value.int .u8) 0 24 5 .i64 .i64 Try.underlying24 hi095 hsz95 A1_0 c1_0 l1_0 (ji81) (wrap64 ((wrap64 (a2 + 1)) * a0_1)) (of_decide_eq_true q133t) q132t (of_decide_eq_true q133t) HC1_0.out
    have HR270 := Aside0.mk (Kd.C_of_reads (h1 := fun _ => rfl) (hA95 _ (Kd.reads_of_C HR1_0.out)))
    have HC270 := Aside0.mk hC95
    clear hA95 hC95 hi095 hsz95
    obtain ⟨i096, hi096, _, hsz96, _⟩ := info_parts info5
    obtain ⟨hcut96, hA96, hC96⟩ := print_take_of (P := Try.prog) (Value.int .u8) 0 24 5 .i64 Try.underlying24 hi096 hsz96 A95 (c1_0 - (ji81).toNat) ((l1_0.take ((wrap64 ((wrap64 (a2 + 1)) * a0_1)) : Int).toNat).drop ((ji81) : Int).toNat) a3 (of_decide_eq_true q133t) (of_decide_eq_true q133t) HC270.out
    rw [show ((l1_0.take ((wrap64 ((wrap64 (a2 + 1)) * a0_1)) : Int).toNat).drop ((ji81) : Int).toNat).length = ((wrap64 ((wrap64 (a2 + 1)) * a0_1)).toNat - (ji81).toNat) from (by rw [List.length_drop, List.length_take]; have h_ : ((wrap64 ((wrap64 (a2 + 1)) * a0_1)) : Int) ≤ (l1_0.length : Int) := of_decide_eq_true q133t; omega)] at hcut96
    have HR271 := Aside0.mk (Kd.C_of_reads (h1 := fun _ => rfl) (hA96 _ (Kd.reads_of_C HR270.out)))
    have HC271 := Aside0.mk hC96
    clear hA96 hC96 hi096 hsz96
    go_wp2_with (first | (go_at_call 26; (with_reducible refine (impl_Pool_chunk.calls (by assumption) q143t q143t).mono ?_); rintro e w' ⟨rfl, rfl⟩) | (go_at_call 25; (first | rw [show min a3.toNat ((wrap64 ((wrap64 (a2 + 1)) * a0_1)).toNat - ji81.toNat) = (((l1_0.take ((wrap64 ((wrap64 (a2 + 1)) * a0_1)) : Int).toNat).drop ((ji81) : Int).toNat).take (a3 : Int).toNat).length from (by simp only [List.length_take, List.length_drop]; have h_ : (a3 : Int) ≤ (((l1_0.take ((wrap64 ((wrap64 (a2 + 1)) * a0_1)) : Int).toNat).drop ((ji81) : Int).toNat).length : Int) := of_decide_eq_true q133t; have k_ : ((wrap64 ((wrap64 (a2 + 1)) * a0_1)) : Int) ≤ (l1_0.length : Int) := of_decide_eq_true q133t; simp only [List.length_take, List.length_drop] at h_; have g_ : 0 ≤ (a3 : Int) := of_decide_eq_true q133t; omega)] | rw [show a3.toNat = (((l1_0.take ((wrap64 ((wrap64 (a2 + 1)) * a0_1)) : Int).toNat).drop ((ji81) : Int).toNat).take (a3 : Int).toNat).length from (by simp only [List.length_take, List.length_drop]; have h_ : (a3 : Int) ≤ (((l1_0.take ((wrap64 ((wrap64 (a2 + 1)) * a0_1)) : Int).toNat).drop ((ji81) : Int).toNat).length : Int) := of_decide_eq_true q133t; have k_ : ((wrap64 ((wrap64 (a2 + 1)) * a0_1)) : Int) ≤ (l1_0.length : Int) := of_decide_eq_true q133t; simp only [List.length_take, List.length_drop] at h_; have g_ : 0 ≤ (a3 : Int) := of_decide_eq_true q133t; omega)] | skip); (with_reducible refine (impl_IsZero.calls kj5 _ _ (((l1_0.take ((wrap64 ((wrap64 (a2 + 1)) * a0_1)) : Int).toNat).drop ((ji81) : Int).toNat).take (a3 : Int).toNat) t272 _ ?side1 ?side2 A87.out).mono ?_); (case side1 => repeat (first | exact (Kd.C_below HR271.out HB.out) | (with_reducible refine Kd.C_alloc ?_ _) | (with_reducible refine Kd.C_drewN ?_ _) | (with_reducible refine Kd.C_drew ?_))); (case side2 => exact HC271.out); rintro e w' ⟨rfl, ⟨nd, rfl⟩⟩))
    go_meet
    case rel => exact ⟨_, (!t272), (by first | rfl | (rw [show decide (a0_1 ≤ (wrap64 (a3 + a0_4))) = _ from by assumption])), q142t, H', ⟨by have := HJ5.out; first | omega | exact Nat.le_refl _⟩, ⟨by (with_reducible repeat (first | apply Kd.R_alloc | apply Kd.R_drewN | apply Kd.R_drew)); exact HO_266000.out⟩, ⟨by (with_reducible repeat (first | apply Kd.R_alloc | apply Kd.R_drewN | apply Kd.R_drew)); exact HO_266001.out⟩, ⟨by (with_reducible repeat (first | apply Kd.R_alloc | apply Kd.R_drewN | apply Kd.R_drew)); exact HO_266002.out⟩, ⟨qbk BK253⟩, ⟨qbk BK254⟩, ⟨qbk BK255⟩, ⟨qbk BK265⟩, ⟨by repeat (first | (with_reducible first | exact HB.out | apply below_alloc | apply pw_below_drewN | apply below_drew1 | refine below_set ?_ GE253.out | refine below_set ?_ GE254.out | refine below_set ?_ GE255.out | refine below_set ?_ GE265.out) | exact HB.out)⟩⟩
   case rest =>
    clear HC75
    try clear c1
    try clear c2
    try clear p2
    try clear p2
    try clear q2
    try clear q2
    try clear hx2
    try clear c3
    try clear c4
    try clear c5
    try clear c6
    try clear p6
    try clear p6
    try clear c7
    try clear c8
    try clear c9
    try clear c10
    try clear c11
    try clear c16
    try clear c17
    try clear c18
    try clear c22
    try clear c23
    try clear c25
    try clear c26
    try clear c26b0
    try clear p26
    try clear p26
    try clear q26
    try clear q26
    try clear hx26
    try clear c27
    try clear c27b0
    try clear c28
    try clear c28b0
    try clear c28b1
    try clear c30
    try clear c31
    try clear c32
    try clear c34
    try clear c35
    try clear c40
    try clear c41
    try clear c42
    try clear c44
    try clear c45
    try clear c50
    try clear c51
    try clear c52
    try clear c54
    try clear c55
    try clear c59
    try clear c60
    try clear c61
    try clear c63
    try clear c64
    try clear p64
    try clear p64
    try clear c67
    try clear c68
    try clear c69
    try clear c70
    try clear c72
    try clear c73
    try clear c76
    try clear c77
    try clear c78
    try clear c80
    try clear c80b0
    try clear c82
    try clear c82b0
    try clear c82b1
    try clear c83
    try clear c83b0
    try clear c83b1
    try clear c84
    try clear c84b0
    try clear c84b1
    try clear c85
    try clear c85b0
    try clear c85b1
    try clear c86
    try clear c86b0
    try clear c86b1
    try clear c88
    try clear c89
    try clear c90
    try clear c92
    try clear c93
    try clear hcz12_0 hcz12_1 hcz12_2
    try clear hcz19_0 hcz19_1 hcz19_2
    try clear hcz33_0 hcz33_1 hcz33_2 hcz33_3 hcz33_4 hcz33_5
    try clear hcz36_0 hcz36_1 hcz36_2
    try clear hcz38_0 hcz38_1 hcz38_2 hcz38_3 hcz38_4 hcz38_5
    try clear hcz39_0 hcz39_1 hcz39_2
    try clear hcz43_0 hcz43_1 hcz43_2 hcz43_3 hcz43_4 hcz43_5
    try clear hcz46_0 hcz46_1 hcz46_2
    try clear hcz48_0 hcz48_1 hcz48_2 hcz48_3 hcz48_4 hcz48_5
    try clear hcz49_0 hcz49_1 hcz49_2
    try clear hcz53_0 hcz53_1 hcz53_2 hcz53_3 hcz53_4 hcz53_5
    try clear hcz56_0 hcz56_1 hcz56_2
    try clear hcz58_0 hcz58_1 hcz58_2 hcz58_3 hcz58_4 hcz58_5
    try clear hcz62_0 hcz62_1 hcz62_2 hcz62_3 hcz62_4 hcz62_5
    try clear hcz65_0 hcz65_1 hcz65_2
    try clear hcz71_0 hcz71_1 hcz71_2
    try clear hcz74_0 hcz74_1 hcz74_2
    try clear hcz79_0 hcz79_1 hcz79_2 hcz79_3 hcz79_4 hcz79_5
    try clear hcz91_0 hcz91_1 hcz91_2
    try clear hcz94_0 hcz94_1 hcz94_2 hcz94_3 hcz94_4 hcz94_5
    try clear hfz12_0 hfz12_1 hfz12_2
    try clear hfz19_0 hfz19_1 hfz19_2
    try clear hfz33_0 hfz33_1 hfz33_2 hfz33_3 hfz33_4 hfz33_5
    try clear hfz36_0 hfz36_1 hfz36_2
    try clear hfz38_0 hfz38_1 hfz38_2 hfz38_3 hfz38_4 hfz38_5
    try clear hfz39_0 hfz39_1 hfz39_2
    try clear hfz43_0 hfz43_1 hfz43_2 hfz43_3 hfz43_4 hfz43_5
    try clear hfz46_0 hfz46_1 hfz46_2
    try clear hfz48_0 hfz48_1 hfz48_2 hfz48_3 hfz48_4 hfz48_5
    try clear hfz49_0 hfz49_1 hfz49_2
    try clear hfz53_0 hfz53_1 hfz53_2 hfz53_3 hfz53_4 hfz53_5
    try clear hfz56_0 hfz56_1 hfz56_2
    try clear hfz58_0 hfz58_1 hfz58_2 hfz58_3 hfz58_4 hfz58_5
    try clear hfz62_0 hfz62_1 hfz62_2 hfz62_3 hfz62_4 hfz62_5
    try clear hfz65_0 hfz65_1 hfz65_2
    try clear hfz71_0 hfz71_1 hfz71_2
    try clear hfz74_0 hfz74_1 hfz74_2
    try clear hfz79_0 hfz79_1 hfz79_2 hfz79_3 hfz79_4 hfz79_5
    try clear hfz91_0 hfz91_1 hfz91_2
    try clear hfz94_0 hfz94_1 hfz94_2 hfz94_3 hfz94_4 hfz94_5
    try clear hx268_0
    try clear p268
    try clear q268
    obtain ⟨kq, x60_74, rfl, rfl, HA, HJ74, HO_266000, HO_266001, HO_266002, BK253, BK254, BK255, BK265, HB⟩ := hcut
    cases kq with
    | zero => exact absurd HA.out (by simp [impl_WipeSome.j1])
    | succ kj74 =>
     have H := HA.out
     clear HA
     simp only [impl_WipeSome.j1] at H
     by_cases c97 : x60_74 = true
     ·subst c97
      rw [if_pos rfl] at H
      simp only [Option.some.injEq, Prod.mk.injEq] at H
      obtain ⟨rfl, rfl, rfl, rfl⟩ := H
      have hnb98 := NB265_253.out
      have hnc98 := NB253_265.out
      have hnb99 := NB265_254.out
      have hnc99 := NB254_265.out
      have hnb100 := NB265_255.out
      have hnc100 := NB255_265.out
      obtain ⟨hcz101_0, hcz101_1, hcz101_2⟩ := qc3 BK265.out
      obtain ⟨hfz101_0, hfz101_1, hfz101_2⟩ := qf3 BK265.out
      have hnb102 := NB255_253.out
      have hnc102 := NB253_255.out
      have hnb103 := NB255_254.out
      have hnc103 := NB254_255.out
      obtain ⟨hcz104_0, hcz104_1, hcz104_2⟩ := qc3 BK255.out
      obtain ⟨hfz104_0, hfz104_1, hfz104_2⟩ := qf3 BK255.out
      go_wp2_with (go_at_call 26; (with_reducible refine (impl_Pool_chunk.calls (by assumption) q143t q143t).mono ?_); rintro e w' ⟨rfl, rfl⟩)
      refine bodyPost_ret (results_ct rfl _ _ gb255 29 #[.slice Ao15 t256.length co15, .slice Ao20 t259.length co20, .slice Ao21 t262.length co21] (0, 0) _ rfl (qbp BK255) Try.underlying29 rfl (by kernel_rfl)) rfl ?_
      exact ⟨_, _, _, by first | rfl | (simp [errW_none, errW_some] <;> rfl) | (simp [*, errW_none, errW_some] <;> rfl), by (with_reducible repeat (first | apply Kd.R_alloc | apply Kd.R_drewN | apply Kd.R_drew)); exact Kd.R_mono (rkf (rkf (rkf (Kd.R_types HO_266000.out BK255.out q144t)))) (fun _ hk => trivial), by (with_reducible repeat (first | apply Kd.R_alloc | apply Kd.R_drewN | apply Kd.R_drew)); exact Kd.R_mono (rkf (rkf (rkf (Kd.R_types HO_266001.out BK255.out q144t)))) (fun _ hk => hk.1), by (with_reducible repeat (first | apply Kd.R_alloc | apply Kd.R_drewN | apply Kd.R_drew)); exact Kd.R_mono (rkf (rkf (rkf (Kd.R_types HO_266002.out BK255.out q144t)))) (fun _ hk => hk.1), by repeat (first | (with_reducible first | exact HB.out | apply below_alloc | apply pw_below_drewN | apply below_drew1 | refine below_set ?_ GE253.out | refine below_set ?_ GE254.out | refine below_set ?_ GE255.out | refine below_set ?_ GE265.out) | exact HB.out)⟩
     replace c97 := Bool.eq_false_iff.mpr c97
     subst c97
     rw [if_neg (show ¬ (false = true) by decide)] at H
     obtain ⟨ji105, hji105⟩ : ∃ j_ : Int, (wsIx t256.length a2 a0_4 a0_1 a3) = j_ := ⟨_, rfl⟩
     replace H : (if 0 ≤ (ji105) then (if (ji105) < (t256.length : Int) then ((some (wsRow t256 a2 a0_4 a0_1 a3 : List Int)).bind fun y273 => (if (decide ((wrap64 (a3 + a0_4)) ≥ a0_1)) = true then (if 0 ≤ a2 then (if a2 < (t259.length : Int) then (some (y273, (t259.set (a2 : Int).toNat 0), t262, (decide ((wrap64 (a3 + a0_4)) ≥ a0_1)))) else (none)) else (none)) else (some (y273, t259, t262, (decide ((wrap64 (a3 + a0_4)) ≥ a0_1)))))) else (none)) else (none)) = some (r1, r2, r3, r4) := by first | (rw [hji105] at H; exact H) | (simp only [hji105] at H ⊢; exact H)
     by_cases c106 : 0 ≤ (ji105)
     rotate_left
     ·rw [if_neg c106] at H
      exact absurd H q145t
     rw [if_pos c106] at H
     have c106b0 : decide (0 ≤ (ji105)) = true := decide_eq_true c106
     clear c106
     by_cases c107 : (ji105) < (t256.length : Int)
     rotate_left
     ·rw [if_neg c107] at H
      exact absurd H q145t
     rw [if_pos c107] at H
     have c107b0 : decide ((ji105) < (t256.length : Int)) = true := decide_eq_true c107
     clear c107
     obtain ⟨y273, hy273⟩ : ∃ y_ : List Int, y_ = (wsRow t256 a2 a0_4 a0_1 a3) := ⟨_, rfl⟩
     replace H : (if (decide ((wrap64 (a3 + a0_4)) ≥ a0_1)) = true then (if 0 ≤ a2 then (if a2 < (t259.length : Int) then (some (y273, (t259.set (a2 : Int).toNat 0), t262, (decide ((wrap64 (a3 + a0_4)) ≥ a0_1)))) else (none)) else (none)) else (some (y273, t259, t262, (decide ((wrap64 (a3 + a0_4)) ≥ a0_1))))) = some (r1, r2, r3, r4) := by first | (rw [hy273]; with_reducible exact H) | (have H2_ := (Option.bind_some _ _).symm.trans H; rw [hy273]; with_reducible exact H2_) | (have H2_ := (Option.bind_some _ _).symm.trans H; with_reducible exact H2_) | with_reducible exact H | (rw [hy273]; exact H) | exact H
     have Ny273 := Aside0.mk hy273
     clear hy273
     by_cases c109 : (decide ((wrap64 (a3 + a0_4)) ≥ a0_1)) = true
     ·rw [if_pos c109] at H
      have c109b0 : (decide ((wrap64 (a3 + a0_4)) ≥ a0_1)) = true := c109
      clear c109
      by_cases c110 : 0 ≤ a2
      rotate_left
      ·rw [if_neg c110] at H
       exact absurd H q145t
      rw [if_pos c110] at H
      have c110b0 : decide (0 ≤ a2) = true := decide_eq_true c110
      clear c110
      by_cases c111 : a2 < (t259.length : Int)
      rotate_left
      ·rw [if_neg c111] at H
       exact absurd H q145t
      rw [if_pos c111] at H
      have c111b0 : decide (a2 < (t259.length : Int)) = true := decide_eq_true c111
      clear c111
      obtain ⟨y274, hy274⟩ : ∃ y_ : List Int, y_ = (t259.set (a2 : Int).toNat 0) := ⟨_, rfl⟩
      replace H : (some (y273, y274, t262, (decide ((wrap64 (a3 + a0_4)) ≥ a0_1)))) = some (r1, r2, r3, r4) := by first | (rw [hy274]; with_reducible exact H) | (have H2_ := (Option.bind_some _ _).symm.trans H; rw [hy274]; with_reducible exact H2_) | (have H2_ := (Option.bind_some _ _).symm.trans H; with_reducible exact H2_) | with_reducible exact H | (rw [hy274]; exact H) | exact H
      have Ny274 := Aside0.mk hy274
      clear hy274
      simp only [Option.some.injEq, Prod.mk.injEq] at H
      obtain ⟨rfl, rfl, rfl, rfl⟩ := H
      have hnb113 := NB265_253.out
      have hnc113 := NB253_265.out
      have hnb114 := NB265_254.out
      have hnc114 := NB254_265.out
      have hnb115 := NB265_255.out
      have hnc115 := NB255_265.out
      obtain ⟨hcz116_0, hcz116_1, hcz116_2⟩ := qc3 BK265.out
      obtain ⟨hfz116_0, hfz116_1, hfz116_2⟩ := qf3 BK265.out
      have hnb117 := NB253_254.out
      have hnc117 := NB254_253.out
      have hnb118 := NB253_255.out
      have hnc118 := NB255_253.out
      obtain ⟨hcz119_0, hcz119_1, hcz119_2, hcz119_3, hcz119_4, hcz119_5⟩ := qc6 BK253.out
      obtain ⟨hfz119_0, hfz119_1, hfz119_2, hfz119_3, hfz119_4, hfz119_5⟩ := qf6 BK253.out
      have p108 : 0 ≤ ((ji105) : Int) := of_decide_eq_true q133t
      have q108 : ((ji105) : Int) < ((t256.length : Int) : Int) := of_decide_eq_true q133t
      obtain ⟨go108, co108, eo108, gb108, gl108, cl108, HG108⟩ := Kd.R_form HO_266000.out (by omega)
      (first | cases eo108 | (injection eo108 with ea_ en_ ec_; (first | subst ea_ | (injection ea_ with ea_; subst ea_)); subst ec_; clear en_))
      have GB108 := Aside0.mk gb108
      have GG108 := Aside0.mk HG108
      clear gb108 gl108 HG108
      obtain ⟨hx108_0, hf108_0⟩ := Kd.R_celln 0 HO_266000.out ((ji105) : Int) p108 q108
      replace p108 := eq_true p108
      replace q108 := eq_true q108
      obtain ⟨i0_, hi0_, _, hsz0_, _⟩ := info_parts info5
      obtain ⟨Z1, zn1, zc1, Z2, zm, zc2, zto, zcut1, zcut2, zA, zfit, zrow, zmn⟩ := wsFacts (P := Try.prog) Try.underlying24 hi0_ hsz0_ HO_266000.out hji105 (of_decide_eq_true q133t)
      clear hi0_ hsz0_
      have zw_ : IntKind.i64.wrap (a3 + a0_4) = wrap64 (a3 + a0_4) := i64_w _
      rcases zmn with ⟨zd, rfl⟩ | ⟨zd, rfl⟩
      all_goals
             go_upto_region 7 with (fail)
             go_region_held3 (fun w' => w'.cell? ⟨gb253, 0, none⟩ = some (.int .i64 a0_0) ∧ w'.cell? ⟨gb253, 1, none⟩ = some (.int .i64 a0_1) ∧ w'.cell? ⟨gb253, 2, none⟩ = some (.int .i64 a0_2) ∧ w'.cell? ⟨gb253, 3, none⟩ = some (.int .i64 a0_3) ∧ w'.cell? ⟨gb253, 4, none⟩ = some (.int .i64 a0_4) ∧ w'.cell? ⟨gb253, 5, none⟩ = some (.int .i64 a0_5) ∧ w'.cell? ⟨gb265, 0, none⟩ = some (.slice (some ⟨go108, 0, none⟩) t256.length co15) ∧ w'.cell? ⟨gb265, 1, none⟩ = some (.slice Ao20 t259.length co20) ∧ w'.cell? ⟨gb265, 2, none⟩ = some (.slice Ao21 t262.length co21)) (first | exact ⟨(blk_cell BK253.out 0).trans rfl, (blk_cell BK253.out 1).trans rfl, (blk_cell BK253.out 2).trans rfl, (blk_cell BK253.out 3).trans rfl, (blk_cell BK253.out 4).trans rfl, (blk_cell BK253.out 5).trans rfl, (blk_cell BK265.out 0).trans rfl, (blk_cell BK265.out 1).trans rfl, (blk_cell BK265.out 2).trans rfl⟩ | exact ⟨(blk_cell (blk_drew BK253.out) 0).trans rfl, (blk_cell (blk_drew BK253.out) 1).trans rfl, (blk_cell (blk_drew BK253.out) 2).trans rfl, (blk_cell (blk_drew BK253.out) 3).trans rfl, (blk_cell (blk_drew BK253.out) 4).trans rfl, (blk_cell (blk_drew BK253.out) 5).trans rfl, (blk_cell (blk_drew BK265.out) 0).trans rfl, (blk_cell (blk_drew BK265.out) 1).trans rfl, (blk_cell (blk_drew BK265.out) 2).trans rfl⟩) (first | (go_at_call 26; (with_reducible refine (impl_Pool_chunk.calls zcut1 rfl rfl).mono ?_); rintro e wq ⟨rfl, hwq⟩; replace HO_266000 := wsR hwq HO_266000; replace HO_266001 := wsR hwq HO_266001; replace HO_266002 := wsR hwq HO_266002; replace BK253 := wsK hwq BK253; replace BK254 := wsK hwq BK254; replace BK255 := wsK hwq BK255; replace BK265 := wsK hwq BK265; replace HB := wsB hwq HB; clear hwq) | (refine impl_WipeSome.clearms (w0 := w) w.heap.size rfl (.tmp 74) 24 5 .u8 rfl Try.underlying24 (fun w => by kernel_rfl) (.slice (some ⟨go108, 0, none⟩) t256.length co15) t256 ji105.toNat zm zfit Z2 zc2 (fun _ => True) ?hs zA HO_266000.out HB.out HB.out.size ?_; (case hs => first | rfl | (simp [Act.eval, Act.put])); intro w121 hr_ hb_ hg_; have hg : wq.grownBy w121 (some go108) := hg_; have hp_ : Kd.R (Kd.int .u8) 5 w121 w.heap.size (fun _ => True) (.slice (some ⟨go108, 0, none⟩) t256.length co15) y273 := (by rw [Ny273.out, zrow]; exact hr_); clear hr_ hg_; replace HO_266001 := Aside0.mk (Kd.R_over' (v := (.slice (some ⟨go108, 0, none⟩) t256.length co15)) (by (with_reducible repeat (first | apply Kd.R_alloc | apply Kd.R_drewN | apply Kd.R_drew)); exact HO_266001.out) (Kd.R_typed HO_266000.out) q144t hg); replace HO_266002 := Aside0.mk (Kd.R_over' (v := (.slice (some ⟨go108, 0, none⟩) t256.length co15)) (by (with_reducible repeat (first | apply Kd.R_alloc | apply Kd.R_drewN | apply Kd.R_drew)); exact HO_266002.out) (Kd.R_typed HO_266000.out) q144t hg); replace BK253 := gbb BK253 hg (Kd.R_ne HO_266000.out BK253.out q144t); replace BK254 := gbb BK254 hg (Kd.R_ne HO_266000.out BK254.out q144t); replace BK255 := gbb BK255 hg (Kd.R_ne HO_266000.out BK255.out q144t); replace BK265 := gbb BK265 hg (Kd.R_ne HO_266000.out BK265.out q144t); replace HO_266000 := Aside0.mk (hp_); replace HB := Aside0.mk hb_; clear hg hp_ hb_))
             all_goals
       obtain ⟨hcz122_0, hcz122_1, hcz122_2⟩ := qc3 BK265.out; obtain ⟨hfz122_0, hfz122_1, hfz122_2⟩ := qf3 BK265.out; have p112 : 0 ≤ (a2 : Int) := of_decide_eq_true q133t; have q112 : (a2 : Int) < ((t259.length : Int) : Int) := of_decide_eq_true q133t; obtain ⟨go112, co112, eo112, gb112, gl112, cl112, HG112⟩ := Kd.R_form HO_266001.out (by omega); (first | cases eo112 | (injection eo112 with ea_ en_ ec_; (first | subst ea_ | (injection ea_ with ea_; subst ea_)); subst ec_; clear en_)); have GB112 := Aside0.mk gb112; have GG112 := Aside0.mk HG112; clear gb112 gl112 HG112; obtain ⟨hx112_0, hf112_0⟩ := Kd.R_celln 0 HO_266001.out (a2 : Int) p112 q112; replace p112 := eq_true p112; replace q112 := eq_true q112; obtain ⟨hy123_, hz123_⟩ := Kd.R_celln 0 HO_266001.out (a2 : Int) (of_decide_eq_true q133t) (of_decide_eq_true q133t); have HP123 := Kd.R_putg HO_266001.out (a2 : Int) 0
       go_wp2_with (first | fail | ((with_reducible refine gate_store (t := 3) (p := 79) rfl ?_); refine store_event (t := 3) (p := 79) (v := ?vo_w124) (w1 := (w121.setCell ⟨go112, (a2 : Int).toNat, none⟩ (.int .i64 0))) ?hg ?ho ?hn ?hr ?_; (case ho => rfl); (case hg => rfl); (case hn => rfl); (case hr => first | (go_simp; done) | (go_simp; rfl)); intro w124 hw; have hg : w121.grownBy w124 (some go112) := (by rw [hw]; exact HP123.2); have hp_ : Kd.R (Kd.int .i64) 3 w124 w.heap.size (fun k_ => some k_ ≠ (.slice Ao21 t262.length co21 : Value).ownBlock) (.slice (some ⟨go112, 0, none⟩) t259.length co20) y274 := (by rw [hw, Ny274.out]; exact HP123.1); clear HP123; replace HO_266000 := Aside0.mk (Kd.R_over' (v := (.slice (some ⟨go112, 0, none⟩) t259.length co20)) (by (with_reducible repeat (first | apply Kd.R_alloc | apply Kd.R_drewN | apply Kd.R_drew)); exact HO_266000.out) (Kd.R_typed HO_266001.out) q144t hg); replace HO_266002 := Aside0.mk (Kd.R_after (v := (.slice (some ⟨go112, 0, none⟩) t259.length co20)) (v1 := (.slice (some ⟨go112, 0, none⟩) t259.length co20)) (ok := (fun _ => True)) (by (with_reducible repeat (first | apply Kd.R_alloc | apply Kd.R_drewN | apply Kd.R_drew)); exact Kd.R_mono HO_266002.out (fun _ hk => ⟨trivial, hk⟩)) hg (.inl rfl)); replace BK253 := gbb BK253 hg (Kd.R_ne HO_266001.out BK253.out q144t); replace BK254 := gbb BK254 hg (Kd.R_ne HO_266001.out BK254.out q144t); replace BK255 := gbb BK255 hg (Kd.R_ne HO_266001.out BK255.out q144t); replace BK265 := gbb BK265 hg (Kd.R_ne HO_266001.out BK265.out q144t); replace HO_266001 := Aside0.mk (hp_); replace HB := Aside0.mk ((by rw [hw]; exact below_set (HB.out) GB112.out : Below w.heap.size w w124)); clear hg hw hp_; obtain ⟨hcz125_0, hcz125_1, hcz125_2⟩ := qc3 BK265.out; obtain ⟨hfz125_0, hfz125_1, hfz125_2⟩ := qf3 BK265.out; have hnb126 := NB255_254.out; have hnc126 := NB254_255.out; obtain ⟨hcz127_0, hcz127_1, hcz127_2⟩ := qc3 BK255.out; obtain ⟨hfz127_0, hfz127_1, hfz127_2⟩ := qf3 BK255.out))
       refine bodyPost_ret (results_ct rfl _ _ gb255 29 #[.slice (some ⟨go108, 0, none⟩) t256.length co15, .slice (some ⟨go112, 0, none⟩) t259.length co20, .slice Ao21 t262.length co21] (0, 0) _ rfl (qbp BK255) Try.underlying29 rfl (by kernel_rfl)) rfl ?_
       exact ⟨_, _, _, by first | rfl | (rw [c109b0]; done) | (rw [c109b0]; rfl) | (simp [errW_none, errW_some] <;> rfl) | (simp only [← hji105]; first | rfl | (simp [errW_none, errW_some] <;> rfl)) | (simp [*, errW_none, errW_some] <;> rfl), by (with_reducible repeat (first | apply Kd.R_alloc | apply Kd.R_drewN | apply Kd.R_drew)); exact Kd.R_mono (rkf (rkf (rkf (Kd.R_types HO_266000.out BK255.out q144t)))) (fun _ hk => trivial), by (with_reducible repeat (first | apply Kd.R_alloc | apply Kd.R_drewN | apply Kd.R_drew)); exact Kd.R_mono (rkf (rkf (rkf (Kd.R_types HO_266001.out BK255.out q144t)))) (fun _ hk => hk.1), by (with_reducible repeat (first | apply Kd.R_alloc | apply Kd.R_drewN | apply Kd.R_drew)); exact Kd.R_mono (rkf (rkf (rkf (Kd.R_types HO_266002.out BK255.out q144t)))) (fun _ hk => hk.1.2), by repeat (first | (with_reducible first | exact HB.out | apply below_alloc | apply pw_below_drewN | apply below_drew1 | refine below_set ?_ GE253.out | refine below_set ?_ GE254.out | refine below_set ?_ GE255.out | refine below_set ?_ GE265.out) | exact HB.out)⟩
     rw [if_neg c109] at H
     have c109b0 : (decide ((wrap64 (a3 + a0_4)) ≥ a0_1)) = false := by simpa using c109
     clear c109
     simp only [Option.some.injEq, Prod.mk.injEq] at H
     obtain ⟨rfl, rfl, rfl, rfl⟩ := H
     have hnb128 := NB265_253.out
     have hnc128 := NB253_265.out
     have hnb129 := NB265_254.out
     have hnc129 := NB254_265.out
     have hnb130 := NB265_255.out
     have hnc130 := NB255_265.out
     obtain ⟨hcz131_0, hcz131_1, hcz131_2⟩ := qc3 BK265.out
     obtain ⟨hfz131_0, hfz131_1, hfz131_2⟩ := qf3 BK265.out
     have hnb132 := NB253_254.out
     have hnc132 := NB254_253.out
     have hnb133 := NB253_255.out
     have hnc133 := NB255_253.out
     obtain ⟨hcz134_0, hcz134_1, hcz134_2, hcz134_3, hcz134_4, hcz134_5⟩ := qc6 BK253.out
     obtain ⟨hfz134_0, hfz134_1, hfz134_2, hfz134_3, hfz134_4, hfz134_5⟩ := qf6 BK253.out
     have p108 : 0 ≤ ((ji105) : Int) := of_decide_eq_true q133t
     have q108 : ((ji105) : Int) < ((t256.length : Int) : Int) := of_decide_eq_true q133t
     obtain ⟨go108, co108, eo108, gb108, gl108, cl108, HG108⟩ := Kd.R_form HO_266000.out (by omega)
     (first | cases eo108 | (injection eo108 with ea_ en_ ec_; (first | subst ea_ | (injection ea_ with ea_; subst ea_)); subst ec_; clear en_))
     have GB108 := Aside0.mk gb108
     have GG108 := Aside0.mk HG108
     clear gb108 gl108 HG108
     obtain ⟨hx108_0, hf108_0⟩ := Kd.R_celln 0 HO_266000.out ((ji105) : Int) p108 q108
     replace p108 := eq_true p108
     replace q108 := eq_true q108
     obtain ⟨i0_, hi0_, _, hsz0_, _⟩ := info_parts info5
     obtain ⟨Z1, zn1, zc1, Z2, zm, zc2, zto, zcut1, zcut2, zA, zfit, zrow, zmn⟩ := wsFacts (P := Try.prog) Try.underlying24 hi0_ hsz0_ HO_266000.out hji105 (of_decide_eq_true q133t)
     clear hi0_ hsz0_
     have zw_ : IntKind.i64.wrap (a3 + a0_4) = wrap64 (a3 + a0_4) := i64_w _
     rcases zmn with ⟨zd, rfl⟩ | ⟨zd, rfl⟩
     all_goals
           go_upto_region 7 with (fail)
           go_region_held3 (fun w' => w'.cell? ⟨gb253, 0, none⟩ = some (.int .i64 a0_0) ∧ w'.cell? ⟨gb253, 1, none⟩ = some (.int .i64 a0_1) ∧ w'.cell? ⟨gb253, 2, none⟩ = some (.int .i64 a0_2) ∧ w'.cell? ⟨gb253, 3, none⟩ = some (.int .i64 a0_3) ∧ w'.cell? ⟨gb253, 4, none⟩ = some (.int .i64 a0_4) ∧ w'.cell? ⟨gb253, 5, none⟩ = some (.int .i64 a0_5) ∧ w'.cell? ⟨gb255, 0, none⟩ = some (.slice none 0 0) ∧ w'.cell? ⟨gb255, 1, none⟩ = some (.slice none 0 0) ∧ w'.cell? ⟨gb255, 2, none⟩ = some (.slice none 0 0) ∧ w'.cell? ⟨gb265, 0, none⟩ = some (.slice (some ⟨go108, 0, none⟩) t256.length co15) ∧ w'.cell? ⟨gb265, 1, none⟩ = some (.slice Ao20 t259.length co20) ∧ w'.cell? ⟨gb265, 2, none⟩ = some (.slice Ao21 t262.length co21)) (first | exact ⟨(blk_cell BK253.out 0).trans rfl, (blk_cell BK253.out 1).trans rfl, (blk_cell BK253.out 2).trans rfl, (blk_cell BK253.out 3).trans rfl, (blk_cell BK253.out 4).trans rfl, (blk_cell BK253.out 5).trans rfl, (blk_cell BK255.out 0).trans rfl, (blk_cell BK255.out 1).trans rfl, (blk_cell BK255.out 2).trans rfl, (blk_cell BK265.out 0).trans rfl, (blk_cell BK265.out 1).trans rfl, (blk_cell BK265.out 2).trans rfl⟩ | exact ⟨(blk_cell (blk_drew BK253.out) 0).trans rfl, (blk_cell (blk_drew BK253.out) 1).trans rfl, (blk_cell (blk_drew BK253.out) 2).trans rfl, (blk_cell (blk_drew BK253.out) 3).trans rfl, (blk_cell (blk_drew BK253.out) 4).trans rfl, (blk_cell (blk_drew BK253.out) 5).trans rfl, (blk_cell (blk_drew BK255.out) 0).trans rfl, (blk_cell (blk_drew BK255.out) 1).trans rfl, (blk_cell (blk_drew BK255.out) 2).trans rfl, (blk_cell (blk_drew BK265.out) 0).trans rfl, (blk_cell (blk_drew BK265.out) 1).trans rfl, (blk_cell (blk_drew BK265.out) 2).trans rfl⟩) (first | (go_at_call 26; (with_reducible refine (impl_Pool_chunk.calls zcut1 rfl rfl).mono ?_); rintro e wq ⟨rfl, hwq⟩; replace HO_266000 := wsR hwq HO_266000; replace HO_266001 := wsR hwq HO_266001; replace HO_266002 := wsR hwq HO_266002; replace BK253 := wsK hwq BK253; replace BK254 := wsK hwq BK254; replace BK255 := wsK hwq BK255; replace BK265 := wsK hwq BK265; replace HB := wsB hwq HB; clear hwq) | (refine impl_WipeSome.clearms (w0 := w) w.heap.size rfl (.tmp 74) 24 5 .u8 rfl Try.underlying24 (fun w => by kernel_rfl) (.slice (some ⟨go108, 0, none⟩) t256.length co15) t256 ji105.toNat zm zfit Z2 zc2 (fun _ => True) ?hs zA HO_266000.out HB.out HB.out.size ?_; (case hs => first | rfl | (simp [Act.eval, Act.put])); intro w136 hr_ hb_ hg_; have hg : wq.grownBy w136 (some go108) := hg_; have hp_ : Kd.R (Kd.int .u8) 5 w136 w.heap.size (fun _ => True) (.slice (some ⟨go108, 0, none⟩) t256.length co15) y273 := (by rw [Ny273.out, zrow]; exact hr_); clear hr_ hg_; replace HO_266001 := Aside0.mk (Kd.R_over' (v := (.slice (some ⟨go108, 0, none⟩) t256.length co15)) (by (with_reducible repeat (first | apply Kd.R_alloc | apply Kd.R_drewN | apply Kd.R_drew)); exact HO_266001.out) (Kd.R_typed HO_266000.out) q144t hg); replace HO_266002 := Aside0.mk (Kd.R_over' (v := (.slice (some ⟨go108, 0, none⟩) t256.length co15)) (by (with_reducible repeat (first | apply Kd.R_alloc | apply Kd.R_drewN | apply Kd.R_drew)); exact HO_266002.out) (Kd.R_typed HO_266000.out) q144t hg); replace BK253 := gbb BK253 hg (Kd.R_ne HO_266000.out BK253.out q144t); replace BK254 := gbb BK254 hg (Kd.R_ne HO_266000.out BK254.out q144t); replace BK255 := gbb BK255 hg (Kd.R_ne HO_266000.out BK255.out q144t); replace BK265 := gbb BK265 hg (Kd.R_ne HO_266000.out BK265.out q144t); replace HO_266000 := Aside0.mk (hp_); replace HB := Aside0.mk hb_; clear hg hp_ hb_))
           all_goals
      obtain ⟨hcz137_0, hcz137_1, hcz137_2⟩ := qc3 BK265.out; obtain ⟨hfz137_0, hfz137_1, hfz137_2⟩ := qf3 BK265.out; have hnb138 := NB255_254.out; have hnc138 := NB254_255.out; obtain ⟨hcz139_0, hcz139_1, hcz139_2⟩ := qc3 BK255.out; obtain ⟨hfz139_0, hfz139_1, hfz139_2⟩ := qf3 BK255.out
      go_wp2
      refine bodyPost_ret (results_ct rfl _ _ gb255 29 #[.slice (some ⟨go108, 0, none⟩) t256.length co15, .slice Ao20 t259.length co20, .slice Ao21 t262.length co21] (0, 0) _ rfl (qbp BK255) Try.underlying29 rfl (by kernel_rfl)) rfl ?_
      exact ⟨_, _, _, by first | rfl | (rw [c109b0]; done) | (rw [c109b0]; rfl) | (simp [errW_none, errW_some] <;> rfl) | (simp only [← hji105]; first | rfl | (simp [errW_none, errW_some] <;> rfl)) | (simp [*, errW_none, errW_some] <;> rfl), by (with_reducible repeat (first | apply Kd.R_alloc | apply Kd.R_drewN | apply Kd.R_drew)); exact Kd.R_mono (rkf (rkf (rkf (Kd.R_types HO_266000.out BK255.out q144t)))) (fun _ hk => trivial), by (with_reducible repeat (first | apply Kd.R_alloc | apply Kd.R_drewN | apply Kd.R_drew)); exact Kd.R_mono (rkf (rkf (rkf (Kd.R_types HO_266001.out BK255.out q144t)))) (fun _ hk => hk.1), by (with_reducible repeat (first | apply Kd.R_alloc | apply Kd.R_drewN | apply Kd.R_drew)); exact Kd.R_mono (rkf (rkf (rkf (Kd.R_types HO_266002.out BK255.out q144t)))) (fun _ hk => hk.1), by repeat (first | (with_reducible first | exact HB.out | apply below_alloc | apply pw_below_drewN | apply below_drew1 | refine below_set ?_ GE253.out | refine below_set ?_ GE254.out | refine below_set ?_ GE255.out | refine below_set ?_ GE265.out) | exact HB.out)⟩

end Go.Proofs.Ytofpmdgndegalaa.QFnExactWipeSome
