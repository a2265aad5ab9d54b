/- What the law FnExactSameTable computes is the answer true, for all arguments within the bounds that the statement's own reading gives. No other condition. -/
import Derived.OpenShut
import Derived.Test.YtnloeihhimcblaaQFnExactSameTablex8
namespace Go.Proofs.Ytnloeihhimcblaa.Pure
open Go.RowKit Go.Proofs.Ytnloeihhimcblaa.QFnExactSameTable Go.Proofs.YtnloeihhimcblaaW.PrintWords Go.Proofs.YtnloeihhimcblaaW.PrintLast
set_option linter.unusedVariables false
set_option linter.unusedSimpArgs false
def ok118 (x : S118) : Prop := (Lit.int .i64 x.f0).wf = true ∧ (Lit.int .i64 x.f1).wf = true ∧ (Lit.int .i64 x.f2).wf = true
def ok32 (x : S32) : Prop := (Lit.int .i64 x.f0).wf = true ∧ (Lit.int .i64 x.f1).wf = true ∧ (Lit.int .i64 x.f2).wf = true ∧ (Lit.int .i64 x.f3).wf = true ∧ (Lit.int .i64 x.f4).wf = true ∧ (Lit.int .i64 x.f5).wf = true ∧ (Lit.int .i64 x.f6).wf = true ∧ (Lit.int .i64 x.f7).wf = true ∧ (x.f8.length ≤ maxLen ∧ x.f8.length * 8 ≤ 140737488351232 ∧ ∀ y ∈ x.f8, (Lit.int .i64 y).wf = true) ∧ (Lit.int .i64 x.f9).wf = true ∧ (Lit.int .i64 x.f10).wf = true ∧ (x.f11.length ≤ maxLen ∧ x.f11.length * 24 ≤ 140737488351232 ∧ ∀ y ∈ x.f11, ok118 y) ∧ (x.f12.length ≤ maxLen ∧ x.f12.length * 8 ≤ 140737488351232 ∧ ∀ y ∈ x.f12, (Lit.int .i64 y).wf = true)
def laws_FnExactSameTable.Pure : Prop := ∀ (l0 : List S32) (l1 : List S32), l0.length ≤ maxLen → l0.length * 152 ≤ 140737488351232 → (∀ x ∈ l0, ok32 x) → l1.length ≤ maxLen → l1.length * 152 ≤ 140737488351232 → (∀ x ∈ l1, ok32 x) → ∃ k, laws_FnExactSameTable.f k l0 l1 = some true
theorem w1 {i : Nat} (h : i < 9223372036854775807) : wrap64 ((i : Int) + 1) = ((i + 1 : Nat) : Int) := by unfold wrap64; omega
theorem rd_nat (xs : List Int) (i : Nat) : rd xs (i : Int) = xs.getD i 0 := by simp [rd]
theorem getD_lt (xs : List Int) (i : Nat) (h : i < xs.length) : xs.getD i 0 = xs[i] := by simp [List.getD, List.getElem?_eq_getElem h]
theorem drop_cons (xs : List Int) (i : Nat) (h : i < xs.length) : xs.drop i = xs.getD i 0 :: xs.drop (i + 1) := by rw [getD_lt xs i h]; exact List.drop_eq_getElem_cons h
theorem set_take {x l : List Int} {i : Nat} (hi : i < l.length) (hx : x.length = l.length) (ht : x.take i = l.take i) : (x.set i (l.getD i 0)).take (i + 1) = l.take (i + 1) := by
  apply List.ext_getElem?
  intro j
  have hj := congrArg (fun z => z[j]?) ht
  simp only [List.getElem?_take] at hj ⊢
  by_cases h1 : j < i + 1
  · rw [if_pos h1, if_pos h1, List.getElem?_set]
    by_cases h2 : i = j
    · subst h2
      rw [if_pos rfl, if_pos (by omega), List.getElem?_eq_getElem hi, getD_lt l i hi]
    · rw [if_neg h2]
      rw [if_pos (by omega), if_pos (by omega)] at hj
      exact hj
  · rw [if_neg h1, if_neg h1]
/-- A loop that copies a slice, each element by a function of its own. -/
theorem copy_gen {α β : Type} (F : Nat → List α → List β → Int → Option (List β)) (c : α → β) (x0 : List α) (K : Nat)
    (step : ∀ (k i : Nat) (x3 : List β) (h : i < x0.length), x3.length = x0.length → K ≤ k → F (k + 1) x0 x3 (i : Int) = F k x0 (x3.set i (c x0[i])) ((i + 1 : Nat) : Int))
    (last : ∀ (k : Nat) (x3 : List β), F (k + 1) x0 x3 (x0.length : Int) = some x3) :
    ∀ (d k i : Nat) (x3 : List β), x0.length - i = d → i ≤ x0.length → x3.length = x0.length → x3.take i = (x0.map c).take i → d + K < k → F k x0 x3 (i : Int) = some (x0.map c) := by
  intro d
  induction d with
  | zero =>
    intro k i x3 hd hi hx ht hk
    obtain ⟨k, rfl⟩ : ∃ m, k = m + 1 := ⟨k - 1, by omega⟩
    have e : i = x0.length := by omega
    subst e
    rw [last]
    rw [List.take_of_length_le (by omega), List.take_of_length_le (by simp)] at ht
    rw [ht]
  | succ d ih =>
    intro k i x3 hd hi hx ht hk
    obtain ⟨k, rfl⟩ : ∃ m, k = m + 1 := ⟨k - 1, by omega⟩
    have h : i < x0.length := by omega
    rw [step k i x3 h hx (by omega)]
    refine ih k (i + 1) _ (by omega) (by omega) (by simpa using hx) ?_ (by omega)
    apply List.ext_getElem?
    intro j
    have hj := congrArg (fun z => z[j]?) ht
    simp only [List.getElem?_take] at hj ⊢
    by_cases h1 : j < i + 1
    · rw [if_pos h1, if_pos h1, List.getElem?_set]
      by_cases h2 : i = j
      · subst h2
        rw [if_pos rfl, if_pos (by omega)]
        simp [h]
      · rw [if_neg h2]
        rw [if_pos (by omega), if_pos (by omega)] at hj
        exact hj
    · rw [if_neg h1, if_neg h1]
/-- A loop that looks at two equal slices. -/
theorem same_gen {β : Type} (G : Nat → List β → List β → Int → Option Bool) (x : List β) (K : Nat)
    (step : ∀ (k i : Nat) (h : i < x.length), K ≤ k → G (k + 1) x x (i : Int) = G k x x ((i + 1 : Nat) : Int))
    (last : ∀ (k : Nat), G (k + 1) x x (x.length : Int) = some true) :
    ∀ (d k i : Nat), x.length - i = d → i ≤ x.length → d + K < k → G k x x (i : Int) = some true := by
  intro d
  induction d with
  | zero =>
    intro k i hd hi hk
    obtain ⟨k, rfl⟩ : ∃ m, k = m + 1 := ⟨k - 1, by omega⟩
    have e : i = x.length := by omega
    subst e
    exact last k
  | succ d ih =>
    intro k i hd hi hk
    obtain ⟨k, rfl⟩ : ∃ m, k = m + 1 := ⟨k - 1, by omega⟩
    rw [step k i (by omega) (by omega)]
    exact ih k (i + 1) (by omega) (by omega) (by omega)
theorem toInt_l0 (l : List Int) (hn : l.length ≤ 35184372088832) : ∀ (d k i : Nat) (x : List Int), l.length - i = d → i ≤ l.length → d < k → x.length = l.length → x.take i = l.take i → laws_toIntS.l0 k l x (i : Int) = some l := by
  intro d
  induction d with
  | zero =>
    intro k i x hd hi hk hx ht
    obtain ⟨k, rfl⟩ : ∃ m, k = m + 1 := ⟨k - 1, by omega⟩
    simp only [laws_toIntS.l0]
    rw [if_neg (by omega)]
    rw [List.take_of_length_le (by omega), List.take_of_length_le (by omega)] at ht
    rw [ht]
  | succ d ih =>
    intro k i x hd hi hk hx ht
    obtain ⟨k, rfl⟩ : ∃ m, k = m + 1 := ⟨k - 1, by omega⟩
    simp only [laws_toIntS.l0]
    rw [if_pos (by omega), if_pos (by omega), if_pos (by omega), w1 (by omega)]
    refine ih k (i + 1) _ (by omega) (by omega) (by omega) (by simpa using hx) ?_
    rw [rd_nat, Int.toNat_natCast]
    exact set_take (by omega) hx ht
theorem toInt_some (l : List Int) (hn : l.length ≤ 35184372088832) {k : Nat} (hk : l.length < k) : laws_toIntS.f k l = some l := by
  unfold laws_toIntS.f
  rw [if_pos (by omega), if_pos (by simpa using hn)]
  exact toInt_l0 l hn l.length k 0 _ (by omega) (by omega) hk (by simp) rfl
theorem eqInt_l0 (a b : List Int) (hab : a.length = b.length) (hn : a.length ≤ 4611686018427387904) : ∀ (d k i : Nat), a.length - i = d → i ≤ a.length → d < k → laws_eqIntS.l0 k a b (i : Int) = some (decide (a.drop i = b.drop i)) := by
  intro d
  induction d with
  | zero =>
    intro k i hd hi hk
    obtain ⟨k, rfl⟩ : ∃ m, k = m + 1 := ⟨k - 1, by omega⟩
    simp only [laws_eqIntS.l0]
    rw [if_neg (by omega), List.drop_eq_nil_of_le (by omega), List.drop_eq_nil_of_le (by omega)]
    simp
  | succ d ih =>
    intro k i hd hi hk
    obtain ⟨k, rfl⟩ : ∃ m, k = m + 1 := ⟨k - 1, by omega⟩
    simp only [laws_eqIntS.l0]
    rw [if_pos (by omega), if_pos (by omega), if_pos (by omega), rd_nat, rd_nat, drop_cons a i (by omega), drop_cons b i (by omega)]
    by_cases h : a.getD i 0 = b.getD i 0
    · rw [if_pos h, w1 (by omega), ih k (i + 1) (by omega) (by omega) (by omega), h]
      simp
    · rw [if_neg h]
      simp only [List.cons.injEq, h, false_and, decide_false]
theorem eqInt_some (a b : List Int) (hn : a.length ≤ 4611686018427387904) {k : Nat} (hk : a.length < k) : laws_eqIntS.f k a b = some (decide (a = b)) := by
  unfold laws_eqIntS.f
  by_cases h : a.length = b.length
  · rw [if_pos (by omega)]
    have := eqInt_l0 a b h hn a.length k 0 (by omega) (by omega) hk
    simpa using this
  · rw [if_neg (by omega)]
    have : a ≠ b := fun e => h (by rw [e])
    simp [this]
theorem eqInt_same (a : List Int) (hn : a.length ≤ 4611686018427387904) {k : Nat} (hk : a.length < k) : laws_eqIntS.f k a a = some true := by
  rw [eqInt_some a a hn hk]; simp
def thingOf (x : S118) : S84 := ⟨x.f0, x.f1, x.f2⟩
theorem rdT_l (xs : List S118) (i : Nat) (h : i < xs.length) : rd_T118 xs (i : Int) = xs[i] := by simp [rd_T118, List.getElem?_eq_getElem h]
theorem rdT_i (xs : List S84) (i : Nat) (h : i < xs.length) : rd_T84 xs (i : Int) = xs[i] := by simp [rd_T84, List.getElem?_eq_getElem h]
theorem toThing_some (l : List S118) (hn : l.length ≤ 5864062014805) {k : Nat} (hk : l.length < k) : laws_toThingS.f k l = some (l.map thingOf) := by
  unfold laws_toThingS.f
  rw [if_pos (by omega), if_pos (by simp; omega)]
  refine copy_gen laws_toThingS.l0 thingOf l 0 ?_ ?_ l.length k 0 _ (by omega) (by omega) (by simp) rfl (by omega)
  · intro k i x3 h hx _
    have c1 : (i : Int) < (l.length : Int) := by omega
    have c2 : (0 : Int) ≤ (i : Int) := by omega
    have c3 : (i : Int) < (x3.length : Int) := by omega
    have e : laws_toThing.f l[i].f0 l[i].f1 l[i].f2 = some (l[i].f0, l[i].f1, l[i].f2) := rfl
    rw [laws_toThingS.l0, if_pos c1, if_pos c2, rdT_l l i h, e, Option.bind_some, if_pos c3, w1 (by omega), Int.toNat_natCast]
    rfl
  · intro k x3
    rw [laws_toThingS.l0, if_neg (Int.lt_irrefl _)]
theorem eqThing1_same (a b c : Int) : laws_eqThing.f a b c a b c = some true := by simp [laws_eqThing.f]
theorem eqThing_same (x : List S84) (hn : x.length ≤ 4611686018427387904) {k : Nat} (hk : x.length < k) : laws_eqThingS.f k x x = some true := by
  unfold laws_eqThingS.f
  rw [if_pos rfl]
  refine same_gen laws_eqThingS.l0 x 0 ?_ ?_ x.length k 0 (by omega) (by omega) (by omega)
  · intro k i h _
    have c1 : (i : Int) < (x.length : Int) := by omega
    have c2 : (0 : Int) ≤ (i : Int) := by omega
    rw [laws_eqThingS.l0, if_pos c1, if_pos c2, if_pos c1, eqThing1_same, Option.bind_some, if_pos rfl, w1 (by omega)]
  · intro k
    rw [laws_eqThingS.l0, if_neg (Int.lt_irrefl _)]
theorem szInt_val (l : List Int) (a : Int) (ha : 0 ≤ a) (ha2 : a ≤ 1048576) (hl : l.length ≤ 281474976710656) : ∃ r, laws_szIntS.f l a = some r ∧ (r < 0 ∨ (0 ≤ r ∧ r ≤ a ∧ l.length ≤ 1048576)) := by
  unfold laws_szIntS.f
  have e : wrap64 (a - (l.length : Int)) = a - (l.length : Int) := by unfold wrap64; omega
  rw [e]
  by_cases h : a - (l.length : Int) < 0
  · rw [if_pos h]; exact ⟨-1, rfl, .inl (by omega)⟩
  · rw [if_neg h]; exact ⟨_, rfl, .inr ⟨by omega, by omega, by omega⟩⟩
theorem szThing_val (l : List S118) (a : Int) (ha : 0 ≤ a) (ha2 : a ≤ 1048576) (hl : l.length ≤ 281474976710656) : ∃ r, laws_szThingS.f l a = some r ∧ (r < 0 ∨ (0 ≤ r ∧ r ≤ a ∧ l.length ≤ 1048576)) := by
  unfold laws_szThingS.f
  have e : wrap64 (a - (l.length : Int)) = a - (l.length : Int) := by unfold wrap64; omega
  rw [e]
  by_cases h : a - (l.length : Int) < 0
  · rw [if_pos h]; exact ⟨-1, rfl, .inl (by omega)⟩
  · rw [if_neg h]; exact ⟨_, rfl, .inr ⟨by omega, by omega, by omega⟩⟩
theorem szNode_val (b0 b1 b2 b3 b4 b5 b6 b7 : Int) (l8 : List Int) (b9 b10 : Int) (l11 : List S118) (l12 : List Int) (a : Int) (ha : 0 ≤ a) (ha2 : a ≤ 1048576) (h8 : l8.length ≤ 281474976710656) (h11 : l11.length ≤ 281474976710656) (h12 : l12.length ≤ 281474976710656) :
    ∃ r, laws_szNode.f b0 b1 b2 b3 b4 b5 b6 b7 l8 b9 b10 l11 l12 a = some r ∧ (r < 0 ∨ (0 ≤ r ∧ r ≤ a ∧ l8.length ≤ 1048576 ∧ l11.length ≤ 1048576 ∧ l12.length ≤ 1048576)) := by
  unfold laws_szNode.f
  obtain ⟨r1, e1, g1⟩ := szInt_val l8 a ha ha2 h8
  rw [e1, Option.bind_some]
  by_cases c1 : r1 < 0
  · rw [if_pos c1]; exact ⟨-1, rfl, .inl (by omega)⟩
  · rw [if_neg c1]
    obtain ⟨r2, e2, g2⟩ := szThing_val l11 r1 (by omega) (by omega) h11
    rw [e2, Option.bind_some]
    by_cases c2 : r2 < 0
    · rw [if_pos c2]; exact ⟨-1, rfl, .inl (by omega)⟩
    · rw [if_neg c2]
      obtain ⟨r3, e3, g3⟩ := szInt_val l12 r2 (by omega) (by omega) h12
      rw [e3, Option.bind_some]
      by_cases c3 : r3 < 0
      · rw [if_pos c3]; exact ⟨-1, rfl, .inl (by omega)⟩
      · rw [if_neg c3]; exact ⟨r3, rfl, .inr (by omega)⟩
/-- The slices of a node are as the machine allows. -/
def NodeSz (x : S32) : Prop := x.f8.length ≤ 281474976710656 ∧ x.f11.length ≤ 281474976710656 ∧ x.f12.length ≤ 281474976710656
def NodeFew (x : S32) : Prop := x.f8.length ≤ 1048576 ∧ x.f11.length ≤ 1048576 ∧ x.f12.length ≤ 1048576
theorem rdN_l (xs : List S32) (i : Nat) (h : i < xs.length) : rd_T32 xs (i : Int) = xs[i] := by simp [rd_T32, List.getElem?_eq_getElem h]
theorem rdN_i (xs : List S37) (i : Nat) (h : i < xs.length) : rd_T37 xs (i : Int) = xs[i] := by simp [rd_T37, List.getElem?_eq_getElem h]
theorem szNodeS_l0 (l : List S32) (hl : l.length ≤ 1048576) (hs : ∀ x ∈ l, NodeSz x) : ∀ (d k i : Nat) (a : Int), l.length - i = d → i ≤ l.length → d < k → 0 ≤ a → a ≤ 1048576 → (∀ j (h : j < l.length), j < i → NodeFew l[j]) →
    ∃ r, laws_szNodeS.l0 k l a (i : Int) = some r ∧ (r < 0 ∨ (0 ≤ r ∧ r ≤ 1048576 ∧ ∀ x ∈ l, NodeFew x)) := by
  intro d
  induction d with
  | zero =>
    intro k i a hd hi hk ha ha2 hf
    obtain ⟨k, rfl⟩ : ∃ m, k = m + 1 := ⟨k - 1, by omega⟩
    have c : ¬ (i : Int) < (l.length : Int) := by omega
    rw [laws_szNodeS.l0, if_neg c]
    refine ⟨a, rfl, .inr ⟨ha, ha2, fun x hx => ?_⟩⟩
    obtain ⟨j, hj, rfl⟩ := List.getElem_of_mem hx
    exact hf j hj (by omega)
  | succ d ih =>
    intro k i a hd hi hk ha ha2 hf
    obtain ⟨k, rfl⟩ : ∃ m, k = m + 1 := ⟨k - 1, by omega⟩
    have c : (i : Int) < (l.length : Int) := by omega
    have c0 : (0 : Int) ≤ (i : Int) := by omega
    have hi' : i < l.length := by omega
    have hz := hs l[i] (List.getElem_mem _)
    obtain ⟨r, e, g⟩ := szNode_val l[i].f0 l[i].f1 l[i].f2 l[i].f3 l[i].f4 l[i].f5 l[i].f6 l[i].f7 l[i].f8 l[i].f9 l[i].f10 l[i].f11 l[i].f12 a ha ha2 hz.1 hz.2.1 hz.2.2
    rw [laws_szNodeS.l0, if_pos c, if_pos c0, rdN_l l i hi', e, Option.bind_some]
    by_cases c1 : r < 0
    · rw [if_pos c1]; exact ⟨-1, rfl, .inl (by omega)⟩
    · rw [if_neg c1, w1 (by omega)]
      refine ih k (i + 1) r (by omega) (by omega) (by omega) (by omega) (by omega) (fun j h hj => ?_)
      by_cases ej : j = i
      · subst ej
        rcases g with g | g
        · exact absurd g c1
        · exact ⟨g.2.2.1, g.2.2.2.1, g.2.2.2.2⟩
      · exact hf j h (by omega)
theorem szNodeS_gen (l : List S32) (b : Int) (hb : 0 ≤ b) (hb2 : b ≤ 1048576) (hl : l.length ≤ 281474976710656) (hs : ∀ x ∈ l, NodeSz x) {k : Nat} (hk : 1048576 < k) :
    ∃ r, laws_szNodeS.f k l b = some r ∧ (r < 0 ∨ (0 ≤ r ∧ r ≤ 1048576 ∧ l.length ≤ 1048576 ∧ ∀ x ∈ l, NodeFew x)) := by
  unfold laws_szNodeS.f
  have e : wrap64 (b - (l.length : Int)) = b - (l.length : Int) := by unfold wrap64; omega
  rw [e]
  by_cases h : b - (l.length : Int) < 0
  · rw [if_pos h]; exact ⟨-1, rfl, .inl (by omega)⟩
  · rw [if_neg h]
    obtain ⟨r, e, g⟩ := szNodeS_l0 l (by omega) hs l.length k 0 (b - (l.length : Int)) (by omega) (by omega) (by omega) (by omega) (by omega) (fun j h hj => by omega)
    refine ⟨r, e, ?_⟩
    rcases g with g | g
    · exact .inl g
    · exact .inr ⟨g.1, g.2.1, by omega, g.2.2⟩
theorem szNodeS_val (l : List S32) (hl : l.length ≤ 281474976710656) (hs : ∀ x ∈ l, NodeSz x) {k : Nat} (hk : 1048576 < k) :
    ∃ r, laws_szNodeS.f k l 1048576 = some r ∧ (r < 0 ∨ (0 ≤ r ∧ r ≤ 1048576 ∧ l.length ≤ 1048576 ∧ ∀ x ∈ l, NodeFew x)) := szNodeS_gen l 1048576 (by omega) (by omega) hl hs hk
theorem toNode_some (b0 b1 b2 b3 b4 b5 b6 b7 : Int) (l8 : List Int) (b9 b10 : Int) (l11 : List S118) (l12 : List Int) (h8 : l8.length ≤ 1048576) (h11 : l11.length ≤ 1048576) (h12 : l12.length ≤ 1048576) {k : Nat} (hk : 1048576 < k) :
    laws_toNode.f k b0 b1 b2 b3 b4 b5 b6 b7 l8 b9 b10 l11 l12 = some (b0, b1, b2, b3, b4, b5, b6, b7, l8, b9, b10, l11.map thingOf, l12) := by
  unfold laws_toNode.f
  rw [toInt_some l8 (by omega) (by omega), Option.bind_some, toThing_some l11 (by omega) (by omega), Option.bind_some, toInt_some l12 (by omega) (by omega), Option.bind_some]
def nodeOf (x : S32) : S37 := ⟨x.f0, x.f1, x.f2, x.f3, x.f4, x.f5, x.f6, x.f7, x.f8, x.f9, x.f10, x.f11.map thingOf, x.f12⟩
theorem toNodeS_some (l : List S32) (hl : l.length ≤ 1048576) (hf : ∀ x ∈ l, NodeFew x) {k : Nat} (hk : 2097154 < k) : laws_toNodeS.f k l = some (l.map nodeOf) := by
  unfold laws_toNodeS.f
  rw [if_pos (by omega), if_pos (by simp; omega)]
  refine copy_gen laws_toNodeS.l0 nodeOf l 1048577 ?_ ?_ l.length k 0 _ (by omega) (by omega) (by simp) rfl (by omega)
  · intro k i x3 h hx hk
    have c1 : (i : Int) < (l.length : Int) := by omega
    have c2 : (0 : Int) ≤ (i : Int) := by omega
    have c3 : (i : Int) < (x3.length : Int) := by omega
    have g := hf l[i] (List.getElem_mem _)
    rw [laws_toNodeS.l0, if_pos c1, if_pos c2, rdN_l l i h, toNode_some _ _ _ _ _ _ _ _ _ _ _ _ _ g.1 g.2.1 g.2.2 (by omega), Option.bind_some, if_pos c3, w1 (by omega), Int.toNat_natCast]
    rfl
  · intro k x3
    rw [laws_toNodeS.l0, if_neg (Int.lt_irrefl _)]
theorem eqNode1_same (b0 b1 b2 b3 b4 b5 b6 b7 : Int) (l8 : List Int) (b9 b10 : Int) (l11 : List S84) (l12 : List Int) (h8 : l8.length ≤ 1048576) (h11 : l11.length ≤ 1048576) (h12 : l12.length ≤ 1048576) {k : Nat} (hk : 1048576 < k) :
    laws_eqNode.f k b0 b1 b2 b3 b4 b5 b6 b7 l8 b9 b10 l11 l12 b0 b1 b2 b3 b4 b5 b6 b7 l8 b9 b10 l11 l12 = some true := by
  unfold laws_eqNode.f
  rw [if_pos rfl, if_pos rfl, if_pos rfl, if_pos rfl, if_pos rfl, if_pos rfl, if_pos rfl, if_pos rfl, eqInt_same l8 (by omega) (by omega), Option.bind_some, if_pos rfl, if_pos rfl, if_pos rfl, eqThing_same l11 (by omega) (by omega), Option.bind_some, if_pos rfl, eqInt_same l12 (by omega) (by omega), Option.bind_some, if_pos rfl]
theorem eqNodeS_same (x : List S37) (hl : x.length ≤ 1048576) (hf : ∀ y ∈ x, y.f8.length ≤ 1048576 ∧ y.f11.length ≤ 1048576 ∧ y.f12.length ≤ 1048576) {k : Nat} (hk : 2097154 < k) : laws_eqNodeS.f k x x = some true := by
  unfold laws_eqNodeS.f
  rw [if_pos rfl]
  refine same_gen laws_eqNodeS.l0 x 1048577 ?_ ?_ x.length k 0 (by omega) (by omega) (by omega)
  · intro k i h hk
    have c1 : (i : Int) < (x.length : Int) := by omega
    have c2 : (0 : Int) ≤ (i : Int) := by omega
    have g := hf x[i] (List.getElem_mem _)
    rw [laws_eqNodeS.l0, if_pos c1, if_pos c2, if_pos c1, rdN_i x i h, eqNode1_same _ _ _ _ _ _ _ _ _ _ _ _ _ g.1 g.2.1 g.2.2 (by omega), Option.bind_some, if_pos rfl, w1 (by omega)]
  · intro k
    rw [laws_eqNodeS.l0, if_neg (Int.lt_irrefl _)]
theorem nodes_few (l : List S32) (hf : ∀ x ∈ l, NodeFew x) : ∀ y ∈ l.map nodeOf, y.f8.length ≤ 1048576 ∧ y.f11.length ≤ 1048576 ∧ y.f12.length ≤ 1048576 := by
  intro y hy
  obtain ⟨x, hx, rfl⟩ := List.mem_map.mp hy
  have g := hf x hx
  exact ⟨g.1, by simpa [nodeOf] using g.2.1, g.2.2⟩
theorem node_sz (l : List S32) (hl : ∀ x ∈ l, ok32 x) : ∀ x ∈ l, NodeSz x := by
  intro x hx
  have h := hl x hx
  have a := h.2.2.2.2.2.2.2.2.1.2.1
  have b := h.2.2.2.2.2.2.2.2.2.2.2.1.2.1
  have c := h.2.2.2.2.2.2.2.2.2.2.2.2.2.1
  exact ⟨by omega, by omega, by omega⟩
theorem nodes_at (l : List S32) (hl : ∀ x ∈ l, ok32 x) (i : Nat) (h : i < (l.map nodeOf).length) : ok32 (l[i]'(by simpa using h)) := hl _ (List.getElem_mem _)
theorem i64_range {x : Int} (h : (Lit.int .i64 x).wf = true) : -9223372036854775808 ≤ x ∧ x ≤ 9223372036854775807 := bounds_i64 h
/-- A loop that compares two slices of one length. -/
theorem cmp_gen {β : Type} (G : Nat → Int → Option Bool) (a b : List β) (hl : a.length = b.length)
    (yes : ∀ (k i : Nat) (h : i < a.length), a[i] = b[i]'(hl ▸ h) → G (k + 1) (i : Int) = G k ((i + 1 : Nat) : Int))
    (no : ∀ (k i : Nat) (h : i < a.length), a[i] ≠ b[i]'(hl ▸ h) → G (k + 1) (i : Int) = some false)
    (last : ∀ (k : Nat), G (k + 1) (a.length : Int) = some true) :
    ∀ (d k i : Nat), a.length - i = d → i ≤ a.length → d < k → ∃ r, G k (i : Int) = some r ∧ (r = true ↔ ∀ (j : Nat) (h : j < a.length), i ≤ j → a[j] = b[j]'(hl ▸ h)) := by
  intro d
  induction d with
  | zero =>
    intro k i hd hi hk
    obtain ⟨k, rfl⟩ : ∃ m, k = m + 1 := ⟨k - 1, by omega⟩
    have e : i = a.length := by omega
    subst e
    exact ⟨true, last k, by simp only [true_iff]; exact fun j h hj => absurd h (by omega)⟩
  | succ d ih =>
    intro k i hd hi hk
    obtain ⟨k, rfl⟩ : ∃ m, k = m + 1 := ⟨k - 1, by omega⟩
    have hi' : i < a.length := by omega
    by_cases c : a[i] = b[i]'(hl ▸ hi')
    · obtain ⟨r, e, g⟩ := ih k (i + 1) (by omega) (by omega) (by omega)
      refine ⟨r, by rw [yes k i hi' c]; exact e, g.trans ⟨fun f j h hj => ?_, fun f j h hj => f j h (by omega)⟩⟩
      by_cases ej : j = i
      · subst ej; exact c
      · exact f j h (by omega)
    · refine ⟨false, no k i hi' c, ?_⟩
      simp only [Bool.false_eq_true, false_iff]
      exact fun f => c (f i hi' (Nat.le_refl _))
theorem all_eq {β : Type} (a b : List β) (hl : a.length = b.length) (h : ∀ (j : Nat) (h : j < a.length), 0 ≤ j → a[j] = b[j]'(hl ▸ h)) : a = b := List.ext_getElem hl (fun j h1 _ => h j h1 (Nat.zero_le _))
theorem rd_at (r : List Int) (i : Nat) (h : i < r.length) : rd r (i : Int) = r[i] := by rw [rd_nat, getD_lt r i h]
theorem slEq_some (a b : List Int) (hn : a.length ≤ 1048576) {k : Nat} (hk : 1048577 < k) : ∃ r, slices_Equal_int_int.f k a b = some r ∧ (r = true ↔ a = b) := by
  unfold slices_Equal_int_int.f
  by_cases hl : a.length = b.length
  · rw [if_pos (by omega)]
    have yes_ : ∀ (k i : Nat) (h : i < a.length), a[i] = b[i]'(hl ▸ h) → (fun k i => slices_Equal_int_int.l0 k a b (a.length : Int) i) (k + 1) (i : Int) = (fun k i => slices_Equal_int_int.l0 k a b (a.length : Int) i) k ((i + 1 : Nat) : Int) := by
      intro k i h c
      have c1 : (i : Int) < (a.length : Int) := by omega
      have c2 : (0 : Int) ≤ (i : Int) := by omega
      have c3 : (i : Int) < (b.length : Int) := by omega
      show slices_Equal_int_int.l0 (k + 1) a b (a.length : Int) (i : Int) = _
      rw [slices_Equal_int_int.l0, if_pos c1, if_pos c2, if_pos c1, if_pos c3, rd_at a i h, rd_at b i (hl ▸ h), if_pos c, w1 (by omega)]
    have no_ : ∀ (k i : Nat) (h : i < a.length), a[i] ≠ b[i]'(hl ▸ h) → (fun k i => slices_Equal_int_int.l0 k a b (a.length : Int) i) (k + 1) (i : Int) = some false := by
      intro k i h c
      have c1 : (i : Int) < (a.length : Int) := by omega
      have c2 : (0 : Int) ≤ (i : Int) := by omega
      have c3 : (i : Int) < (b.length : Int) := by omega
      show slices_Equal_int_int.l0 (k + 1) a b (a.length : Int) (i : Int) = _
      rw [slices_Equal_int_int.l0, if_pos c1, if_pos c2, if_pos c1, if_pos c3, rd_at a i h, rd_at b i (hl ▸ h), if_neg c]
    have last_ : ∀ (k : Nat), (fun k i => slices_Equal_int_int.l0 k a b (a.length : Int) i) (k + 1) (a.length : Int) = some true := by
      intro k
      show slices_Equal_int_int.l0 (k + 1) a b (a.length : Int) (a.length : Int) = _
      rw [slices_Equal_int_int.l0, if_neg (Int.lt_irrefl _)]
    obtain ⟨r, e, g⟩ := cmp_gen (fun k i => slices_Equal_int_int.l0 k a b (a.length : Int) i) a b hl yes_ no_ last_ a.length k 0 (by omega) (by omega) (by omega)
    exact ⟨r, e, g.trans ⟨fun f => all_eq a b hl f, fun f => by subst f; exact fun _ _ _ => rfl⟩⟩
  · rw [if_neg (by omega)]
    exact ⟨false, rfl, by simp only [Bool.false_eq_true, false_iff]; exact fun e => hl (by rw [e])⟩
theorem l7_some (a b : List Int) (hn : a.length ≤ 1048576) {k : Nat} (hk : 1048577 < k) : ∃ r, spec_l7SameInts.f k a b = some r ∧ (r = true ↔ a = b) := by
  unfold spec_l7SameInts.f
  by_cases hl : a.length = b.length
  · rw [if_pos (by omega)]
    have yes_ : ∀ (k i : Nat) (h : i < a.length), a[i] = b[i]'(hl ▸ h) → (fun k i => spec_l7SameInts.l0 k a b i) (k + 1) (i : Int) = (fun k i => spec_l7SameInts.l0 k a b i) k ((i + 1 : Nat) : Int) := by
      intro k i h c
      have c1 : (i : Int) < (a.length : Int) := by omega
      have c2 : (0 : Int) ≤ (i : Int) := by omega
      have c3 : (i : Int) < (b.length : Int) := by omega
      show spec_l7SameInts.l0 (k + 1) a b (i : Int) = _
      rw [spec_l7SameInts.l0, if_pos c1, if_pos c2, if_pos c3, rd_at a i h, rd_at b i (hl ▸ h), if_pos c, w1 (by omega)]
    have no_ : ∀ (k i : Nat) (h : i < a.length), a[i] ≠ b[i]'(hl ▸ h) → (fun k i => spec_l7SameInts.l0 k a b i) (k + 1) (i : Int) = some false := by
      intro k i h c
      have c1 : (i : Int) < (a.length : Int) := by omega
      have c2 : (0 : Int) ≤ (i : Int) := by omega
      have c3 : (i : Int) < (b.length : Int) := by omega
      show spec_l7SameInts.l0 (k + 1) a b (i : Int) = _
      rw [spec_l7SameInts.l0, if_pos c1, if_pos c2, if_pos c3, rd_at a i h, rd_at b i (hl ▸ h), if_neg c]
    have last_ : ∀ (k : Nat), (fun k i => spec_l7SameInts.l0 k a b i) (k + 1) (a.length : Int) = some true := by
      intro k
      show spec_l7SameInts.l0 (k + 1) a b (a.length : Int) = _
      rw [spec_l7SameInts.l0, if_neg (Int.lt_irrefl _)]
    obtain ⟨r, e, g⟩ := cmp_gen (fun k i => spec_l7SameInts.l0 k a b i) a b hl yes_ no_ last_ a.length k 0 (by omega) (by omega) (by omega)
    exact ⟨r, e, g.trans ⟨fun f => all_eq a b hl f, fun f => by subst f; exact fun _ _ _ => rfl⟩⟩
  · rw [if_neg (by omega)]
    exact ⟨false, rfl, by simp only [Bool.false_eq_true, false_iff]; exact fun e => hl (by rw [e])⟩
theorem thing_differ (x y : S84) : ((!(x.f0 == y.f0) || (!(x.f1 == y.f1) || (!(x.f2 == y.f2)))) = true) ↔ x ≠ y := by
  obtain ⟨a, b, c⟩ := x
  obtain ⟨p, q, r⟩ := y
  simp only [Bool.or_eq_true, Bool.not_eq_true', beq_eq_false_iff_ne, ne_eq, S84.mk.injEq]
  by_cases h1 : a = p <;> by_cases h2 : b = q <;> by_cases h3 : c = r <;> simp [h1, h2, h3]
theorem implThing_some (a b : List S84) (hn : a.length ≤ 1048576) {k : Nat} (hk : 1048577 < k) : ∃ r, impl_Thing.f k a b = some r ∧ (r = true ↔ a = b) := by
  unfold impl_Thing.f
  by_cases hl : a.length = b.length
  · rw [if_pos (by omega)]
    have yes_ : ∀ (k i : Nat) (h : i < a.length), a[i] = b[i]'(hl ▸ h) → (fun k i => impl_Thing.l0 k a b (a.length : Int) i) (k + 1) (i : Int) = (fun k i => impl_Thing.l0 k a b (a.length : Int) i) k ((i + 1 : Nat) : Int) := by
      intro k i h c
      have c1 : (i : Int) < (a.length : Int) := by omega
      have c2 : (0 : Int) ≤ (i : Int) := by omega
      have c3 : (i : Int) < (b.length : Int) := by omega
      show impl_Thing.l0 (k + 1) a b (a.length : Int) (i : Int) = _
      rw [impl_Thing.l0, if_pos c1, if_pos c2, if_pos c1, if_pos c3, rdT_i a i h, rdT_i b i (hl ▸ h), if_neg (fun d => (thing_differ _ _).mp d c), w1 (by omega)]
    have no_ : ∀ (k i : Nat) (h : i < a.length), a[i] ≠ b[i]'(hl ▸ h) → (fun k i => impl_Thing.l0 k a b (a.length : Int) i) (k + 1) (i : Int) = some false := by
      intro k i h c
      have c1 : (i : Int) < (a.length : Int) := by omega
      have c2 : (0 : Int) ≤ (i : Int) := by omega
      have c3 : (i : Int) < (b.length : Int) := by omega
      show impl_Thing.l0 (k + 1) a b (a.length : Int) (i : Int) = _
      rw [impl_Thing.l0, if_pos c1, if_pos c2, if_pos c1, if_pos c3, rdT_i a i h, rdT_i b i (hl ▸ h), if_pos ((thing_differ _ _).mpr c)]
    have last_ : ∀ (k : Nat), (fun k i => impl_Thing.l0 k a b (a.length : Int) i) (k + 1) (a.length : Int) = some true := by
      intro k
      show impl_Thing.l0 (k + 1) a b (a.length : Int) (a.length : Int) = _
      rw [impl_Thing.l0, if_neg (Int.lt_irrefl _)]
    obtain ⟨r, e, g⟩ := cmp_gen (fun k i => impl_Thing.l0 k a b (a.length : Int) i) a b hl yes_ no_ last_ a.length k 0 (by omega) (by omega) (by omega)
    exact ⟨r, e, g.trans ⟨fun f => all_eq a b hl f, fun f => by subst f; exact fun _ _ _ => rfl⟩⟩
  · rw [if_neg (by omega)]
    exact ⟨false, rfl, by simp only [Bool.false_eq_true, false_iff]; exact fun e => hl (by rw [e])⟩
theorem things_l0 (a0 : Int) (a1 : Int) (a2 : Int) (a3 : Int) (a4 : Int) (a5 : Int) (a6 : Int) (a7 : Int) (la8 : List Int) (a9 : Int) (a10 : Int) (la11 : List S84) (la12 : List Int) (b0 : Int) (b1 : Int) (b2 : Int) (b3 : Int) (b4 : Int) (b5 : Int) (b6 : Int) (b7 : Int) (lb8 : List Int) (b9 : Int) (b10 : Int) (lb11 : List S84) (lb12 : List Int) (hl : la11.length = lb11.length) (h11 : la11.length ≤ 1048576) {k : Nat} (hk : 1048577 < k) : ∃ r, spec_SameNode.l0 k 0 a0 a1 a2 a3 a4 a5 a6 a7 la8 a9 a10 la11 la12 b0 b1 b2 b3 b4 b5 b6 b7 lb8 b9 b10 lb11 lb12 = some r ∧ (r = true ↔ la11 = lb11) := by
  have yes_ : ∀ (k i : Nat) (h : i < la11.length), la11[i] = lb11[i]'(hl ▸ h) → (fun k i => spec_SameNode.l0 k i a0 a1 a2 a3 a4 a5 a6 a7 la8 a9 a10 la11 la12 b0 b1 b2 b3 b4 b5 b6 b7 lb8 b9 b10 lb11 lb12) (k + 1) (i : Int) = (fun k i => spec_SameNode.l0 k i a0 a1 a2 a3 a4 a5 a6 a7 la8 a9 a10 la11 la12 b0 b1 b2 b3 b4 b5 b6 b7 lb8 b9 b10 lb11 lb12) k ((i + 1 : Nat) : Int) := by
    intro k i h c
    have c1 : (i : Int) < (la11.length : Int) := by omega
    have c2 : (0 : Int) ≤ (i : Int) := by omega
    have c3 : (i : Int) < (lb11.length : Int) := by omega
    show spec_SameNode.l0 (k + 1) (i : Int) a0 a1 a2 a3 a4 a5 a6 a7 la8 a9 a10 la11 la12 b0 b1 b2 b3 b4 b5 b6 b7 lb8 b9 b10 lb11 lb12 = _
    rw [spec_SameNode.l0, if_pos c1, if_pos c2, if_pos c3, rdT_i la11 i h, rdT_i lb11 i (hl ▸ h), if_neg (fun d => (thing_differ _ _).mp d c), w1 (by omega)]
  have no_ : ∀ (k i : Nat) (h : i < la11.length), la11[i] ≠ lb11[i]'(hl ▸ h) → (fun k i => spec_SameNode.l0 k i a0 a1 a2 a3 a4 a5 a6 a7 la8 a9 a10 la11 la12 b0 b1 b2 b3 b4 b5 b6 b7 lb8 b9 b10 lb11 lb12) (k + 1) (i : Int) = some false := by
    intro k i h c
    have c1 : (i : Int) < (la11.length : Int) := by omega
    have c2 : (0 : Int) ≤ (i : Int) := by omega
    have c3 : (i : Int) < (lb11.length : Int) := by omega
    show spec_SameNode.l0 (k + 1) (i : Int) a0 a1 a2 a3 a4 a5 a6 a7 la8 a9 a10 la11 la12 b0 b1 b2 b3 b4 b5 b6 b7 lb8 b9 b10 lb11 lb12 = _
    rw [spec_SameNode.l0, if_pos c1, if_pos c2, if_pos c3, rdT_i la11 i h, rdT_i lb11 i (hl ▸ h), if_pos ((thing_differ _ _).mpr c)]
  have last_ : ∀ (k : Nat), (fun k i => spec_SameNode.l0 k i a0 a1 a2 a3 a4 a5 a6 a7 la8 a9 a10 la11 la12 b0 b1 b2 b3 b4 b5 b6 b7 lb8 b9 b10 lb11 lb12) (k + 1) (la11.length : Int) = some true := by
    intro k
    show spec_SameNode.l0 (k + 1) (la11.length : Int) a0 a1 a2 a3 a4 a5 a6 a7 la8 a9 a10 la11 la12 b0 b1 b2 b3 b4 b5 b6 b7 lb8 b9 b10 lb11 lb12 = _
    rw [spec_SameNode.l0, if_neg (Int.lt_irrefl _)]
  obtain ⟨r, e, g⟩ := cmp_gen (fun k i => spec_SameNode.l0 k i a0 a1 a2 a3 a4 a5 a6 a7 la8 a9 a10 la11 la12 b0 b1 b2 b3 b4 b5 b6 b7 lb8 b9 b10 lb11 lb12) la11 lb11 hl yes_ no_ last_ la11.length k 0 (by omega) (by omega) (by omega)
  exact ⟨r, e, g.trans ⟨fun f => all_eq la11 lb11 hl f, fun f => by subst f; exact fun _ _ _ => rfl⟩⟩
theorem same_spec (a0 : Int) (a1 : Int) (a2 : Int) (a3 : Int) (a4 : Int) (a5 : Int) (a6 : Int) (a7 : Int) (la8 : List Int) (a9 : Int) (a10 : Int) (la11 : List S84) (la12 : List Int) (b0 : Int) (b1 : Int) (b2 : Int) (b3 : Int) (b4 : Int) (b5 : Int) (b6 : Int) (b7 : Int) (lb8 : List Int) (b9 : Int) (b10 : Int) (lb11 : List S84) (lb12 : List Int) (h8 : la8.length ≤ 1048576) (h11 : la11.length ≤ 1048576) (h12 : la12.length ≤ 1048576) {k : Nat} (hk : 1048578 < k) : ∃ r, spec_SameNode.f k a0 a1 a2 a3 a4 a5 a6 a7 la8 a9 a10 la11 la12 b0 b1 b2 b3 b4 b5 b6 b7 lb8 b9 b10 lb11 lb12 = some r ∧ (r = true ↔ (a0 = b0 ∧ a1 = b1 ∧ a2 = b2 ∧ a3 = b3 ∧ a4 = b4 ∧ a5 = b5 ∧ a6 = b6 ∧ a7 = b7 ∧ la8 = lb8 ∧ a9 = b9 ∧ a10 = b10 ∧ la11 = lb11 ∧ la12 = lb12)) := by
  obtain ⟨k, rfl⟩ : ∃ m, k = m + 1 := ⟨k - 1, by omega⟩
  have ff : spec_SameNode.j0 (k + 1) true a0 a1 a2 a3 a4 a5 a6 a7 la8 a9 a10 la11 la12 b0 b1 b2 b3 b4 b5 b6 b7 lb8 b9 b10 lb11 lb12 = some false := by rw [spec_SameNode.j0, if_pos rfl]
  unfold spec_SameNode.f
  by_cases c0 : a0 = b0
  rotate_left
  · rw [if_neg c0, ff]; exact ⟨false, rfl, by simp only [Bool.false_eq_true, false_iff]; exact fun h => c0 h.1⟩
  rw [if_pos c0]
  by_cases c1 : a1 = b1
  rotate_left
  · rw [if_neg c1, ff]; exact ⟨false, rfl, by simp only [Bool.false_eq_true, false_iff]; exact fun h => c1 h.2.1⟩
  rw [if_pos c1]
  by_cases c2 : a2 = b2
  rotate_left
  · rw [if_neg c2, ff]; exact ⟨false, rfl, by simp only [Bool.false_eq_true, false_iff]; exact fun h => c2 h.2.2.1⟩
  rw [if_pos c2]
  by_cases c3 : a3 = b3
  rotate_left
  · rw [if_neg c3, ff]; exact ⟨false, rfl, by simp only [Bool.false_eq_true, false_iff]; exact fun h => c3 h.2.2.2.1⟩
  rw [if_pos c3]
  by_cases c4 : a4 = b4
  rotate_left
  · rw [if_neg c4, ff]; exact ⟨false, rfl, by simp only [Bool.false_eq_true, false_iff]; exact fun h => c4 h.2.2.2.2.1⟩
  rw [if_pos c4]
  by_cases c5 : a5 = b5
  rotate_left
  · rw [if_neg c5, ff]; exact ⟨false, rfl, by simp only [Bool.false_eq_true, false_iff]; exact fun h => c5 h.2.2.2.2.2.1⟩
  rw [if_pos c5]
  by_cases c6 : a6 = b6
  rotate_left
  · rw [if_neg c6, ff]; exact ⟨false, rfl, by simp only [Bool.false_eq_true, false_iff]; exact fun h => c6 h.2.2.2.2.2.2.1⟩
  rw [if_pos c6]
  by_cases c7 : a7 = b7
  rotate_left
  · rw [if_neg c7, ff]; exact ⟨false, rfl, by simp only [Bool.false_eq_true, false_iff]; exact fun h => c7 h.2.2.2.2.2.2.2.1⟩
  rw [if_pos c7]
  obtain ⟨r8, e8, g8⟩ := l7_some la8 lb8 h8 (k := k + 1) (by omega)
  rw [e8, Option.bind_some]
  by_cases c8 : r8 = true
  rotate_left
  · rw [if_neg c8, ff]; exact ⟨false, rfl, by simp only [Bool.false_eq_true, false_iff]; exact fun h => c8 (g8.mpr h.2.2.2.2.2.2.2.2.1)⟩
  rw [if_pos c8]
  by_cases c9 : a9 = b9
  rotate_left
  · rw [if_neg c9, ff]; exact ⟨false, rfl, by simp only [Bool.false_eq_true, false_iff]; exact fun h => c9 h.2.2.2.2.2.2.2.2.2.1⟩
  rw [if_pos c9]
  by_cases c10 : a10 = b10
  rotate_left
  · rw [if_neg c10, ff]; exact ⟨false, rfl, by simp only [Bool.false_eq_true, false_iff]; exact fun h => c10 h.2.2.2.2.2.2.2.2.2.2.1⟩
  rw [if_pos c10]
  by_cases c11 : la11.length = lb11.length
  rotate_left
  · rw [if_neg (by omega), ff]; exact ⟨false, rfl, by simp only [Bool.false_eq_true, false_iff]; exact fun h => c11 (by rw [h.2.2.2.2.2.2.2.2.2.2.2.1])⟩
  rw [if_pos (by omega)]
  obtain ⟨r12, e12, g12⟩ := l7_some la12 lb12 h12 (k := k + 1) (by omega)
  rw [e12, Option.bind_some]
  by_cases c12 : r12 = true
  rotate_left
  · have : r12 = false := by simpa using c12
    rw [this, Bool.not_false, ff]; exact ⟨false, rfl, by simp only [Bool.false_eq_true, false_iff]; exact fun h => c12 (g12.mpr h.2.2.2.2.2.2.2.2.2.2.2.2)⟩
  rw [c12, Bool.not_true, spec_SameNode.j0, if_neg Bool.false_ne_true]
  obtain ⟨r, e, g⟩ := things_l0 a0 a1 a2 a3 a4 a5 a6 a7 la8 a9 a10 la11 la12 b0 b1 b2 b3 b4 b5 b6 b7 lb8 b9 b10 lb11 lb12 c11 h11 (k := k) (by omega)
  exact ⟨r, e, g.trans ⟨fun h => ⟨c0, c1, c2, c3, c4, c5, c6, c7, g8.mp c8, c9, c10, h, g12.mp c12⟩, fun h => h.2.2.2.2.2.2.2.2.2.2.2.1⟩⟩
theorem same_impl (a0 : Int) (a1 : Int) (a2 : Int) (a3 : Int) (a4 : Int) (a5 : Int) (a6 : Int) (a7 : Int) (la8 : List Int) (a9 : Int) (a10 : Int) (la11 : List S84) (la12 : List Int) (b0 : Int) (b1 : Int) (b2 : Int) (b3 : Int) (b4 : Int) (b5 : Int) (b6 : Int) (b7 : Int) (lb8 : List Int) (b9 : Int) (b10 : Int) (lb11 : List S84) (lb12 : List Int) (h8 : la8.length ≤ 1048576) (h11 : la11.length ≤ 1048576) (h12 : la12.length ≤ 1048576) {k : Nat} (hk : 1048578 < k) : ∃ r, impl_SameNode.f k a0 a1 a2 a3 a4 a5 a6 a7 la8 a9 a10 la11 la12 b0 b1 b2 b3 b4 b5 b6 b7 lb8 b9 b10 lb11 lb12 = some r ∧ (r = true ↔ (a0 = b0 ∧ a1 = b1 ∧ a2 = b2 ∧ a3 = b3 ∧ a4 = b4 ∧ a5 = b5 ∧ a6 = b6 ∧ a7 = b7 ∧ la8 = lb8 ∧ a9 = b9 ∧ a10 = b10 ∧ la11 = lb11 ∧ la12 = lb12)) := by
  unfold impl_SameNode.f
  by_cases c0 : a0 = b0
  rotate_left
  · rw [if_neg c0]; exact ⟨false, rfl, by simp only [Bool.false_eq_true, false_iff]; exact fun h => c0 h.1⟩
  rw [if_pos c0]
  by_cases c1 : a1 = b1
  rotate_left
  · rw [if_neg c1]; exact ⟨false, rfl, by simp only [Bool.false_eq_true, false_iff]; exact fun h => c1 h.2.1⟩
  rw [if_pos c1]
  by_cases c2 : a2 = b2
  rotate_left
  · rw [if_neg c2]; exact ⟨false, rfl, by simp only [Bool.false_eq_true, false_iff]; exact fun h => c2 h.2.2.1⟩
  rw [if_pos c2]
  by_cases c3 : a3 = b3
  rotate_left
  · rw [if_neg c3]; exact ⟨false, rfl, by simp only [Bool.false_eq_true, false_iff]; exact fun h => c3 h.2.2.2.1⟩
  rw [if_pos c3]
  by_cases c4 : a4 = b4
  rotate_left
  · rw [if_neg c4]; exact ⟨false, rfl, by simp only [Bool.false_eq_true, false_iff]; exact fun h => c4 h.2.2.2.2.1⟩
  rw [if_pos c4]
  by_cases c5 : a5 = b5
  rotate_left
  · rw [if_neg c5]; exact ⟨false, rfl, by simp only [Bool.false_eq_true, false_iff]; exact fun h => c5 h.2.2.2.2.2.1⟩
  rw [if_pos c5]
  by_cases c6 : a6 = b6
  rotate_left
  · rw [if_neg c6]; exact ⟨false, rfl, by simp only [Bool.false_eq_true, false_iff]; exact fun h => c6 h.2.2.2.2.2.2.1⟩
  rw [if_pos c6]
  by_cases c7 : a7 = b7
  rotate_left
  · rw [if_neg c7]; exact ⟨false, rfl, by simp only [Bool.false_eq_true, false_iff]; exact fun h => c7 h.2.2.2.2.2.2.2.1⟩
  rw [if_pos c7]
  obtain ⟨r8, e8, g8⟩ := slEq_some la8 lb8 h8 (k := k) (by omega)
  rw [e8, Option.bind_some]
  by_cases c8 : r8 = true
  rotate_left
  · rw [if_neg c8]; exact ⟨false, rfl, by simp only [Bool.false_eq_true, false_iff]; exact fun h => c8 (g8.mpr h.2.2.2.2.2.2.2.2.1)⟩
  rw [if_pos c8]
  by_cases c9 : a9 = b9
  rotate_left
  · rw [if_neg c9]; exact ⟨false, rfl, by simp only [Bool.false_eq_true, false_iff]; exact fun h => c9 h.2.2.2.2.2.2.2.2.2.1⟩
  rw [if_pos c9]
  by_cases c10 : a10 = b10
  rotate_left
  · rw [if_neg c10]; exact ⟨false, rfl, by simp only [Bool.false_eq_true, false_iff]; exact fun h => c10 h.2.2.2.2.2.2.2.2.2.2.1⟩
  rw [if_pos c10]
  obtain ⟨r11, e11, g11⟩ := implThing_some la11 lb11 h11 (k := k) (by omega)
  rw [e11, Option.bind_some]
  by_cases c11 : r11 = true
  rotate_left
  · rw [if_neg c11]; exact ⟨false, rfl, by simp only [Bool.false_eq_true, false_iff]; exact fun h => c11 (g11.mpr h.2.2.2.2.2.2.2.2.2.2.2.1)⟩
  rw [if_pos c11]
  obtain ⟨r12, e12, g12⟩ := slEq_some la12 lb12 h12 (k := k) (by omega)
  rw [e12, Option.bind_some]
  exact ⟨r12, rfl, g12.trans ⟨fun h => ⟨c0, c1, c2, c3, c4, c5, c6, c7, g8.mp c8, c9, c10, g11.mp c11, h⟩, fun h => h.2.2.2.2.2.2.2.2.2.2.2.2⟩⟩
theorem same_node (a0 : Int) (a1 : Int) (a2 : Int) (a3 : Int) (a4 : Int) (a5 : Int) (a6 : Int) (a7 : Int) (la8 : List Int) (a9 : Int) (a10 : Int) (la11 : List S84) (la12 : List Int) (b0 : Int) (b1 : Int) (b2 : Int) (b3 : Int) (b4 : Int) (b5 : Int) (b6 : Int) (b7 : Int) (lb8 : List Int) (b9 : Int) (b10 : Int) (lb11 : List S84) (lb12 : List Int) (h8 : la8.length ≤ 1048576) (h11 : la11.length ≤ 1048576) (h12 : la12.length ≤ 1048576) {k : Nat} (hk : 1048578 < k) : ∃ r, spec_SameNode.f k a0 a1 a2 a3 a4 a5 a6 a7 la8 a9 a10 la11 la12 b0 b1 b2 b3 b4 b5 b6 b7 lb8 b9 b10 lb11 lb12 = some r ∧ impl_SameNode.f k a0 a1 a2 a3 a4 a5 a6 a7 la8 a9 a10 la11 la12 b0 b1 b2 b3 b4 b5 b6 b7 lb8 b9 b10 lb11 lb12 = some r := by
  obtain ⟨r, e, g⟩ := same_spec a0 a1 a2 a3 a4 a5 a6 a7 la8 a9 a10 la11 la12 b0 b1 b2 b3 b4 b5 b6 b7 lb8 b9 b10 lb11 lb12 h8 h11 h12 hk
  obtain ⟨r', e', g'⟩ := same_impl a0 a1 a2 a3 a4 a5 a6 a7 la8 a9 a10 la11 la12 b0 b1 b2 b3 b4 b5 b6 b7 lb8 b9 b10 lb11 lb12 h8 h11 h12 hk
  have : r = r' := by
    rw [Bool.eq_iff_iff]; exact g.trans g'.symm
  exact ⟨r, e, by rw [this]; exact e'⟩
theorem tab_same (xs ys : List S37) (hl : xs.length = ys.length) (hn : xs.length ≤ 1048576) (hf : ∀ y ∈ xs, y.f8.length ≤ 1048576 ∧ y.f11.length ≤ 1048576 ∧ y.f12.length ≤ 1048576) : ∀ (d k i : Nat), xs.length - i = d → i ≤ xs.length → d + 1048579 < k →
    ∃ r, spec_SameTable.l0 k xs ys (i : Int) = some r ∧ impl_Node.l0 k ys xs (xs.length : Int) (i : Int) = some r := by
  intro d
  induction d with
  | zero =>
    intro k i hd hi hk
    obtain ⟨k, rfl⟩ : ∃ m, k = m + 1 := ⟨k - 1, by omega⟩
    have c : ¬ (i : Int) < (xs.length : Int) := by omega
    rw [spec_SameTable.l0, impl_Node.l0, if_neg c, if_neg c]
    exact ⟨_, rfl, rfl⟩
  | succ d ih =>
    intro k i hd hi hk
    obtain ⟨k, rfl⟩ : ∃ m, k = m + 1 := ⟨k - 1, by omega⟩
    have c : (i : Int) < (xs.length : Int) := by omega
    have c0 : (0 : Int) ≤ (i : Int) := by omega
    have c1 : (i : Int) < (ys.length : Int) := by omega
    have hi' : i < xs.length := by omega
    have hi2 : i < ys.length := by omega
    have g := hf xs[i] (List.getElem_mem _)
    obtain ⟨r, e1, e2⟩ := same_node xs[i].f0 xs[i].f1 xs[i].f2 xs[i].f3 xs[i].f4 xs[i].f5 xs[i].f6 xs[i].f7 xs[i].f8 xs[i].f9 xs[i].f10 xs[i].f11 xs[i].f12 ys[i].f0 ys[i].f1 ys[i].f2 ys[i].f3 ys[i].f4 ys[i].f5 ys[i].f6 ys[i].f7 ys[i].f8 ys[i].f9 ys[i].f10 ys[i].f11 ys[i].f12 g.1 g.2.1 g.2.2 (k := k) (by omega)
    rw [spec_SameTable.l0, impl_Node.l0, if_pos c, if_pos c, if_pos c0, if_pos c0, if_pos c1, if_pos c, if_pos c1, rdN_i xs i hi', rdN_i ys i hi2, e1, e2, Option.bind_some, Option.bind_some, w1 (by omega)]
    by_cases h : r = true
    · rw [if_pos h, if_pos h]
      exact ih k (i + 1) (by omega) (by omega) (by omega)
    · rw [if_neg h, if_neg h]
      exact ⟨_, rfl, rfl⟩
theorem table_same (xs ys : List S37) (hn : xs.length ≤ 1048576) (hf : ∀ y ∈ xs, y.f8.length ≤ 1048576 ∧ y.f11.length ≤ 1048576 ∧ y.f12.length ≤ 1048576) {k : Nat} (hk : 2097156 < k) :
    ∃ r, spec_SameTable.f k xs ys = some r ∧ impl_SameTable.f k xs ys = some r := by
  unfold spec_SameTable.f impl_SameTable.f impl_Node.f
  by_cases hl : xs.length = ys.length
  · obtain ⟨r, e1, e2⟩ := tab_same xs ys hl hn hf xs.length k 0 (by omega) (by omega) (by omega)
    rw [if_pos (by omega), if_pos (by omega)]
    exact ⟨r, e1, by rw [show (0 : Int) = ((0 : Nat) : Int) from rfl, e2]; rfl⟩
  · rw [if_neg (by omega), if_neg (by omega)]
    exact ⟨false, rfl, rfl⟩
theorem FnExactSameTable : laws_FnExactSameTable.Pure := by
  intro l m hm hl2 hok hn hm2 hok2
  obtain ⟨k, hk⟩ : ∃ k : Nat, 4000000 < k := ⟨_, Nat.lt_succ_self _⟩
  refine ⟨k, ?_⟩
  unfold laws_FnExactSameTable.f
  obtain ⟨r, e, g⟩ := szNodeS_val l (by omega) (node_sz l hok) (k := k) (by omega)
  rw [e, Option.bind_some]
  by_cases c : r < 0
  · rw [if_pos c]
  rw [if_neg c]
  rcases g with g | ⟨r0, r1, g1, g2⟩
  · exact absurd g c
  obtain ⟨r', e', g'⟩ := szNodeS_gen m r r0 r1 (by omega) (node_sz m hok2) (k := k) (by omega)
  rw [e', Option.bind_some]
  by_cases c' : r' < 0
  · rw [if_pos c']
  rw [if_neg c']
  rcases g' with g' | ⟨_, _, j1, j2⟩
  · exact absurd g' c'
  have hl : (l.map nodeOf).length = l.length := by simp
  have hm' : (m.map nodeOf).length = m.length := by simp
  obtain ⟨q, s1, s2⟩ := table_same (l.map nodeOf) (m.map nodeOf) (by omega) (nodes_few l g2) (k := k) (by omega)
  simp only [toNodeS_some l g1 g2 (show 2097154 < k by omega), toNodeS_some m j1 j2 (show 2097154 < k by omega), s1, s2, Option.bind_some, ↓reduceIte, bne_self_eq_false, Bool.false_eq_true, eqNodeS_same (l.map nodeOf) (by omega) (nodes_few l g2) (show 2097154 < k by omega), eqNodeS_same (m.map nodeOf) (by omega) (nodes_few m j2) (show 2097154 < k by omega)]
end Go.Proofs.Ytnloeihhimcblaa.Pure
