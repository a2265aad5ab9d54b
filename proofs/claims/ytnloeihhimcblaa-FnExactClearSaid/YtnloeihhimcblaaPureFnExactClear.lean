/- What the law FnExactClear computes is the answer true, for all arguments within the bounds that the statement's own reading gives. No other condition. -/
import Derived.OpenShut
import Derived.Test.YtnloeihhimcblaaQFnExactClearx7
namespace Go.Proofs.Ytnloeihhimcblaa.Pure
open Go.RowKit Go.Proofs.Ytnloeihhimcblaa.QFnExactClear Go.Proofs.YtnloeihhimcblaaW.PrintWords Go.Proofs.YtnloeihhimcblaaW.PrintLast
set_option linter.unusedVariables false
set_option linter.unusedSimpArgs false
def ok118 (x : S118) : Prop := (Lit.int .i64 x.f0).wf = true ∧ (Lit.int .i64 x.f1).wf = true ∧ (Lit.int .i64 x.f2).wf = true
def ok32 (x : S32) : Prop := (Lit.int .i64 x.f0).wf = true ∧ (Lit.int .i64 x.f1).wf = true ∧ (Lit.int .i64 x.f2).wf = true ∧ (Lit.int .i64 x.f3).wf = true ∧ (Lit.int .i64 x.f4).wf = true ∧ (Lit.int .i64 x.f5).wf = true ∧ (Lit.int .i64 x.f6).wf = true ∧ (Lit.int .i64 x.f7).wf = true ∧ (x.f8.length ≤ maxLen ∧ x.f8.length * 8 ≤ 140737488351232 ∧ ∀ y ∈ x.f8, (Lit.int .i64 y).wf = true) ∧ (Lit.int .i64 x.f9).wf = true ∧ (Lit.int .i64 x.f10).wf = true ∧ (x.f11.length ≤ maxLen ∧ x.f11.length * 24 ≤ 140737488351232 ∧ ∀ y ∈ x.f11, ok118 y) ∧ (x.f12.length ≤ maxLen ∧ x.f12.length * 8 ≤ 140737488351232 ∧ ∀ y ∈ x.f12, (Lit.int .i64 y).wf = true)
def laws_FnExactClear.Pure : Prop := ∀ (l0 : List S32) (a1 : Int) (a2 : Int), l0.length ≤ maxLen → l0.length * 152 ≤ 140737488351232 → (∀ x ∈ l0, ok32 x) → (Lit.int .i64 a1).wf = true → (Lit.int .i64 a2).wf = true → ∃ k, laws_FnExactClear.f k l0 a1 a2 = some true
theorem w1 {i : Nat} (h : i < 9223372036854775807) : wrap64 ((i : Int) + 1) = ((i + 1 : Nat) : Int) := by unfold wrap64; omega
theorem rd_nat (xs : List Int) (i : Nat) : rd xs (i : Int) = xs.getD i 0 := by simp [rd]
theorem getD_lt (xs : List Int) (i : Nat) (h : i < xs.length) : xs.getD i 0 = xs[i] := by simp [List.getD, List.getElem?_eq_getElem h]
theorem drop_cons (xs : List Int) (i : Nat) (h : i < xs.length) : xs.drop i = xs.getD i 0 :: xs.drop (i + 1) := by rw [getD_lt xs i h]; exact List.drop_eq_getElem_cons h
theorem set_take {x l : List Int} {i : Nat} (hi : i < l.length) (hx : x.length = l.length) (ht : x.take i = l.take i) : (x.set i (l.getD i 0)).take (i + 1) = l.take (i + 1) := by
  apply List.ext_getElem?
  intro j
  have hj := congrArg (fun z => z[j]?) ht
  simp only [List.getElem?_take] at hj ⊢
  by_cases h1 : j < i + 1
  · rw [if_pos h1, if_pos h1, List.getElem?_set]
    by_cases h2 : i = j
    · subst h2
      rw [if_pos rfl, if_pos (by omega), List.getElem?_eq_getElem hi, getD_lt l i hi]
    · rw [if_neg h2]
      rw [if_pos (by omega), if_pos (by omega)] at hj
      exact hj
  · rw [if_neg h1, if_neg h1]
/-- A loop that copies a slice, each element by a function of its own. -/
theorem copy_gen {α β : Type} (F : Nat → List α → List β → Int → Option (List β)) (c : α → β) (x0 : List α) (K : Nat)
    (step : ∀ (k i : Nat) (x3 : List β) (h : i < x0.length), x3.length = x0.length → K ≤ k → F (k + 1) x0 x3 (i : Int) = F k x0 (x3.set i (c x0[i])) ((i + 1 : Nat) : Int))
    (last : ∀ (k : Nat) (x3 : List β), F (k + 1) x0 x3 (x0.length : Int) = some x3) :
    ∀ (d k i : Nat) (x3 : List β), x0.length - i = d → i ≤ x0.length → x3.length = x0.length → x3.take i = (x0.map c).take i → d + K < k → F k x0 x3 (i : Int) = some (x0.map c) := by
  intro d
  induction d with
  | zero =>
    intro k i x3 hd hi hx ht hk
    obtain ⟨k, rfl⟩ : ∃ m, k = m + 1 := ⟨k - 1, by omega⟩
    have e : i = x0.length := by omega
    subst e
    rw [last]
    rw [List.take_of_length_le (by omega), List.take_of_length_le (by simp)] at ht
    rw [ht]
  | succ d ih =>
    intro k i x3 hd hi hx ht hk
    obtain ⟨k, rfl⟩ : ∃ m, k = m + 1 := ⟨k - 1, by omega⟩
    have h : i < x0.length := by omega
    rw [step k i x3 h hx (by omega)]
    refine ih k (i + 1) _ (by omega) (by omega) (by simpa using hx) ?_ (by omega)
    apply List.ext_getElem?
    intro j
    have hj := congrArg (fun z => z[j]?) ht
    simp only [List.getElem?_take] at hj ⊢
    by_cases h1 : j < i + 1
    · rw [if_pos h1, if_pos h1, List.getElem?_set]
      by_cases h2 : i = j
      · subst h2
        rw [if_pos rfl, if_pos (by omega)]
        simp [h]
      · rw [if_neg h2]
        rw [if_pos (by omega), if_pos (by omega)] at hj
        exact hj
    · rw [if_neg h1, if_neg h1]
/-- A loop that looks at two equal slices. -/
theorem same_gen {β : Type} (G : Nat → List β → List β → Int → Option Bool) (x : List β) (K : Nat)
    (step : ∀ (k i : Nat) (h : i < x.length), K ≤ k → G (k + 1) x x (i : Int) = G k x x ((i + 1 : Nat) : Int))
    (last : ∀ (k : Nat), G (k + 1) x x (x.length : Int) = some true) :
    ∀ (d k i : Nat), x.length - i = d → i ≤ x.length → d + K < k → G k x x (i : Int) = some true := by
  intro d
  induction d with
  | zero =>
    intro k i hd hi hk
    obtain ⟨k, rfl⟩ : ∃ m, k = m + 1 := ⟨k - 1, by omega⟩
    have e : i = x.length := by omega
    subst e
    exact last k
  | succ d ih =>
    intro k i hd hi hk
    obtain ⟨k, rfl⟩ : ∃ m, k = m + 1 := ⟨k - 1, by omega⟩
    rw [step k i (by omega) (by omega)]
    exact ih k (i + 1) (by omega) (by omega) (by omega)
theorem toInt_l0 (l : List Int) (hn : l.length ≤ 35184372088832) : ∀ (d k i : Nat) (x : List Int), l.length - i = d → i ≤ l.length → d < k → x.length = l.length → x.take i = l.take i → laws_toIntS.l0 k l x (i : Int) = some l := by
  intro d
  induction d with
  | zero =>
    intro k i x hd hi hk hx ht
    obtain ⟨k, rfl⟩ : ∃ m, k = m + 1 := ⟨k - 1, by omega⟩
    simp only [laws_toIntS.l0]
    rw [if_neg (by omega)]
    rw [List.take_of_length_le (by omega), List.take_of_length_le (by omega)] at ht
    rw [ht]
  | succ d ih =>
    intro k i x hd hi hk hx ht
    obtain ⟨k, rfl⟩ : ∃ m, k = m + 1 := ⟨k - 1, by omega⟩
    simp only [laws_toIntS.l0]
    rw [if_pos (by omega), if_pos (by omega), if_pos (by omega), w1 (by omega)]
    refine ih k (i + 1) _ (by omega) (by omega) (by omega) (by simpa using hx) ?_
    rw [rd_nat, Int.toNat_natCast]
    exact set_take (by omega) hx ht
theorem toInt_some (l : List Int) (hn : l.length ≤ 35184372088832) {k : Nat} (hk : l.length < k) : laws_toIntS.f k l = some l := by
  unfold laws_toIntS.f
  rw [if_pos (by omega), if_pos (by simpa using hn)]
  exact toInt_l0 l hn l.length k 0 _ (by omega) (by omega) hk (by simp) rfl
theorem eqInt_l0 (a b : List Int) (hab : a.length = b.length) (hn : a.length ≤ 4611686018427387904) : ∀ (d k i : Nat), a.length - i = d → i ≤ a.length → d < k → laws_eqIntS.l0 k a b (i : Int) = some (decide (a.drop i = b.drop i)) := by
  intro d
  induction d with
  | zero =>
    intro k i hd hi hk
    obtain ⟨k, rfl⟩ : ∃ m, k = m + 1 := ⟨k - 1, by omega⟩
    simp only [laws_eqIntS.l0]
    rw [if_neg (by omega), List.drop_eq_nil_of_le (by omega), List.drop_eq_nil_of_le (by omega)]
    simp
  | succ d ih =>
    intro k i hd hi hk
    obtain ⟨k, rfl⟩ : ∃ m, k = m + 1 := ⟨k - 1, by omega⟩
    simp only [laws_eqIntS.l0]
    rw [if_pos (by omega), if_pos (by omega), if_pos (by omega), rd_nat, rd_nat, drop_cons a i (by omega), drop_cons b i (by omega)]
    by_cases h : a.getD i 0 = b.getD i 0
    · rw [if_pos h, w1 (by omega), ih k (i + 1) (by omega) (by omega) (by omega), h]
      simp
    · rw [if_neg h]
      simp only [List.cons.injEq, h, false_and, decide_false]
theorem eqInt_some (a b : List Int) (hn : a.length ≤ 4611686018427387904) {k : Nat} (hk : a.length < k) : laws_eqIntS.f k a b = some (decide (a = b)) := by
  unfold laws_eqIntS.f
  by_cases h : a.length = b.length
  · rw [if_pos (by omega)]
    have := eqInt_l0 a b h hn a.length k 0 (by omega) (by omega) hk
    simpa using this
  · rw [if_neg (by omega)]
    have : a ≠ b := fun e => h (by rw [e])
    simp [this]
theorem eqInt_same (a : List Int) (hn : a.length ≤ 4611686018427387904) {k : Nat} (hk : a.length < k) : laws_eqIntS.f k a a = some true := by
  rw [eqInt_some a a hn hk]; simp
def thingOf (x : S118) : S84 := ⟨x.f0, x.f1, x.f2⟩
theorem rdT_l (xs : List S118) (i : Nat) (h : i < xs.length) : rd_T118 xs (i : Int) = xs[i] := by simp [rd_T118, List.getElem?_eq_getElem h]
theorem rdT_i (xs : List S84) (i : Nat) (h : i < xs.length) : rd_T84 xs (i : Int) = xs[i] := by simp [rd_T84, List.getElem?_eq_getElem h]
theorem toThing_some (l : List S118) (hn : l.length ≤ 5864062014805) {k : Nat} (hk : l.length < k) : laws_toThingS.f k l = some (l.map thingOf) := by
  unfold laws_toThingS.f
  rw [if_pos (by omega), if_pos (by simp; omega)]
  refine copy_gen laws_toThingS.l0 thingOf l 0 ?_ ?_ l.length k 0 _ (by omega) (by omega) (by simp) rfl (by omega)
  · intro k i x3 h hx _
    have c1 : (i : Int) < (l.length : Int) := by omega
    have c2 : (0 : Int) ≤ (i : Int) := by omega
    have c3 : (i : Int) < (x3.length : Int) := by omega
    have e : laws_toThing.f l[i].f0 l[i].f1 l[i].f2 = some (l[i].f0, l[i].f1, l[i].f2) := rfl
    rw [laws_toThingS.l0, if_pos c1, if_pos c2, rdT_l l i h, e, Option.bind_some, if_pos c3, w1 (by omega), Int.toNat_natCast]
    rfl
  · intro k x3
    rw [laws_toThingS.l0, if_neg (Int.lt_irrefl _)]
theorem eqThing1_same (a b c : Int) : laws_eqThing.f a b c a b c = some true := by simp [laws_eqThing.f]
theorem eqThing_same (x : List S84) (hn : x.length ≤ 4611686018427387904) {k : Nat} (hk : x.length < k) : laws_eqThingS.f k x x = some true := by
  unfold laws_eqThingS.f
  rw [if_pos rfl]
  refine same_gen laws_eqThingS.l0 x 0 ?_ ?_ x.length k 0 (by omega) (by omega) (by omega)
  · intro k i h _
    have c1 : (i : Int) < (x.length : Int) := by omega
    have c2 : (0 : Int) ≤ (i : Int) := by omega
    rw [laws_eqThingS.l0, if_pos c1, if_pos c2, if_pos c1, eqThing1_same, Option.bind_some, if_pos rfl, w1 (by omega)]
  · intro k
    rw [laws_eqThingS.l0, if_neg (Int.lt_irrefl _)]
theorem szInt_val (l : List Int) (a : Int) (ha : 0 ≤ a) (ha2 : a ≤ 1048576) (hl : l.length ≤ 281474976710656) : ∃ r, laws_szIntS.f l a = some r ∧ (r < 0 ∨ (0 ≤ r ∧ r ≤ a ∧ l.length ≤ 1048576)) := by
  unfold laws_szIntS.f
  have e : wrap64 (a - (l.length : Int)) = a - (l.length : Int) := by unfold wrap64; omega
  rw [e]
  by_cases h : a - (l.length : Int) < 0
  · rw [if_pos h]; exact ⟨-1, rfl, .inl (by omega)⟩
  · rw [if_neg h]; exact ⟨_, rfl, .inr ⟨by omega, by omega, by omega⟩⟩
theorem szThing_val (l : List S118) (a : Int) (ha : 0 ≤ a) (ha2 : a ≤ 1048576) (hl : l.length ≤ 281474976710656) : ∃ r, laws_szThingS.f l a = some r ∧ (r < 0 ∨ (0 ≤ r ∧ r ≤ a ∧ l.length ≤ 1048576)) := by
  unfold laws_szThingS.f
  have e : wrap64 (a - (l.length : Int)) = a - (l.length : Int) := by unfold wrap64; omega
  rw [e]
  by_cases h : a - (l.length : Int) < 0
  · rw [if_pos h]; exact ⟨-1, rfl, .inl (by omega)⟩
  · rw [if_neg h]; exact ⟨_, rfl, .inr ⟨by omega, by omega, by omega⟩⟩
theorem szNode_val (b0 b1 b2 b3 b4 b5 b6 b7 : Int) (l8 : List Int) (b9 b10 : Int) (l11 : List S118) (l12 : List Int) (a : Int) (ha : 0 ≤ a) (ha2 : a ≤ 1048576) (h8 : l8.length ≤ 281474976710656) (h11 : l11.length ≤ 281474976710656) (h12 : l12.length ≤ 281474976710656) :
    ∃ r, laws_szNode.f b0 b1 b2 b3 b4 b5 b6 b7 l8 b9 b10 l11 l12 a = some r ∧ (r < 0 ∨ (0 ≤ r ∧ r ≤ a ∧ l8.length ≤ 1048576 ∧ l11.length ≤ 1048576 ∧ l12.length ≤ 1048576)) := by
  unfold laws_szNode.f
  obtain ⟨r1, e1, g1⟩ := szInt_val l8 a ha ha2 h8
  rw [e1, Option.bind_some]
  by_cases c1 : r1 < 0
  · rw [if_pos c1]; exact ⟨-1, rfl, .inl (by omega)⟩
  · rw [if_neg c1]
    obtain ⟨r2, e2, g2⟩ := szThing_val l11 r1 (by omega) (by omega) h11
    rw [e2, Option.bind_some]
    by_cases c2 : r2 < 0
    · rw [if_pos c2]; exact ⟨-1, rfl, .inl (by omega)⟩
    · rw [if_neg c2]
      obtain ⟨r3, e3, g3⟩ := szInt_val l12 r2 (by omega) (by omega) h12
      rw [e3, Option.bind_some]
      by_cases c3 : r3 < 0
      · rw [if_pos c3]; exact ⟨-1, rfl, .inl (by omega)⟩
      · rw [if_neg c3]; exact ⟨r3, rfl, .inr (by omega)⟩
/-- The slices of a node are as the machine allows. -/
def NodeSz (x : S32) : Prop := x.f8.length ≤ 281474976710656 ∧ x.f11.length ≤ 281474976710656 ∧ x.f12.length ≤ 281474976710656
def NodeFew (x : S32) : Prop := x.f8.length ≤ 1048576 ∧ x.f11.length ≤ 1048576 ∧ x.f12.length ≤ 1048576
theorem rdN_l (xs : List S32) (i : Nat) (h : i < xs.length) : rd_T32 xs (i : Int) = xs[i] := by simp [rd_T32, List.getElem?_eq_getElem h]
theorem rdN_i (xs : List S37) (i : Nat) (h : i < xs.length) : rd_T37 xs (i : Int) = xs[i] := by simp [rd_T37, List.getElem?_eq_getElem h]
theorem szNodeS_l0 (l : List S32) (hl : l.length ≤ 1048576) (hs : ∀ x ∈ l, NodeSz x) : ∀ (d k i : Nat) (a : Int), l.length - i = d → i ≤ l.length → d < k → 0 ≤ a → a ≤ 1048576 → (∀ j (h : j < l.length), j < i → NodeFew l[j]) →
    ∃ r, laws_szNodeS.l0 k l a (i : Int) = some r ∧ (r < 0 ∨ (0 ≤ r ∧ r ≤ 1048576 ∧ ∀ x ∈ l, NodeFew x)) := by
  intro d
  induction d with
  | zero =>
    intro k i a hd hi hk ha ha2 hf
    obtain ⟨k, rfl⟩ : ∃ m, k = m + 1 := ⟨k - 1, by omega⟩
    have c : ¬ (i : Int) < (l.length : Int) := by omega
    rw [laws_szNodeS.l0, if_neg c]
    refine ⟨a, rfl, .inr ⟨ha, ha2, fun x hx => ?_⟩⟩
    obtain ⟨j, hj, rfl⟩ := List.getElem_of_mem hx
    exact hf j hj (by omega)
  | succ d ih =>
    intro k i a hd hi hk ha ha2 hf
    obtain ⟨k, rfl⟩ : ∃ m, k = m + 1 := ⟨k - 1, by omega⟩
    have c : (i : Int) < (l.length : Int) := by omega
    have c0 : (0 : Int) ≤ (i : Int) := by omega
    have hi' : i < l.length := by omega
    have hz := hs l[i] (List.getElem_mem _)
    obtain ⟨r, e, g⟩ := szNode_val l[i].f0 l[i].f1 l[i].f2 l[i].f3 l[i].f4 l[i].f5 l[i].f6 l[i].f7 l[i].f8 l[i].f9 l[i].f10 l[i].f11 l[i].f12 a ha ha2 hz.1 hz.2.1 hz.2.2
    rw [laws_szNodeS.l0, if_pos c, if_pos c0, rdN_l l i hi', e, Option.bind_some]
    by_cases c1 : r < 0
    · rw [if_pos c1]; exact ⟨-1, rfl, .inl (by omega)⟩
    · rw [if_neg c1, w1 (by omega)]
      refine ih k (i + 1) r (by omega) (by omega) (by omega) (by omega) (by omega) (fun j h hj => ?_)
      by_cases ej : j = i
      · subst ej
        rcases g with g | g
        · exact absurd g c1
        · exact ⟨g.2.2.1, g.2.2.2.1, g.2.2.2.2⟩
      · exact hf j h (by omega)
theorem szNodeS_gen (l : List S32) (b : Int) (hb : 0 ≤ b) (hb2 : b ≤ 1048576) (hl : l.length ≤ 281474976710656) (hs : ∀ x ∈ l, NodeSz x) {k : Nat} (hk : 1048576 < k) :
    ∃ r, laws_szNodeS.f k l b = some r ∧ (r < 0 ∨ (0 ≤ r ∧ r ≤ 1048576 ∧ l.length ≤ 1048576 ∧ ∀ x ∈ l, NodeFew x)) := by
  unfold laws_szNodeS.f
  have e : wrap64 (b - (l.length : Int)) = b - (l.length : Int) := by unfold wrap64; omega
  rw [e]
  by_cases h : b - (l.length : Int) < 0
  · rw [if_pos h]; exact ⟨-1, rfl, .inl (by omega)⟩
  · rw [if_neg h]
    obtain ⟨r, e, g⟩ := szNodeS_l0 l (by omega) hs l.length k 0 (b - (l.length : Int)) (by omega) (by omega) (by omega) (by omega) (by omega) (fun j h hj => by omega)
    refine ⟨r, e, ?_⟩
    rcases g with g | g
    · exact .inl g
    · exact .inr ⟨g.1, g.2.1, by omega, g.2.2⟩
theorem szNodeS_val (l : List S32) (hl : l.length ≤ 281474976710656) (hs : ∀ x ∈ l, NodeSz x) {k : Nat} (hk : 1048576 < k) :
    ∃ r, laws_szNodeS.f k l 1048576 = some r ∧ (r < 0 ∨ (0 ≤ r ∧ r ≤ 1048576 ∧ l.length ≤ 1048576 ∧ ∀ x ∈ l, NodeFew x)) := szNodeS_gen l 1048576 (by omega) (by omega) hl hs hk
theorem toNode_some (b0 b1 b2 b3 b4 b5 b6 b7 : Int) (l8 : List Int) (b9 b10 : Int) (l11 : List S118) (l12 : List Int) (h8 : l8.length ≤ 1048576) (h11 : l11.length ≤ 1048576) (h12 : l12.length ≤ 1048576) {k : Nat} (hk : 1048576 < k) :
    laws_toNode.f k b0 b1 b2 b3 b4 b5 b6 b7 l8 b9 b10 l11 l12 = some (b0, b1, b2, b3, b4, b5, b6, b7, l8, b9, b10, l11.map thingOf, l12) := by
  unfold laws_toNode.f
  rw [toInt_some l8 (by omega) (by omega), Option.bind_some, toThing_some l11 (by omega) (by omega), Option.bind_some, toInt_some l12 (by omega) (by omega), Option.bind_some]
def nodeOf (x : S32) : S37 := ⟨x.f0, x.f1, x.f2, x.f3, x.f4, x.f5, x.f6, x.f7, x.f8, x.f9, x.f10, x.f11.map thingOf, x.f12⟩
theorem toNodeS_some (l : List S32) (hl : l.length ≤ 1048576) (hf : ∀ x ∈ l, NodeFew x) {k : Nat} (hk : 2097154 < k) : laws_toNodeS.f k l = some (l.map nodeOf) := by
  unfold laws_toNodeS.f
  rw [if_pos (by omega), if_pos (by simp; omega)]
  refine copy_gen laws_toNodeS.l0 nodeOf l 1048577 ?_ ?_ l.length k 0 _ (by omega) (by omega) (by simp) rfl (by omega)
  · intro k i x3 h hx hk
    have c1 : (i : Int) < (l.length : Int) := by omega
    have c2 : (0 : Int) ≤ (i : Int) := by omega
    have c3 : (i : Int) < (x3.length : Int) := by omega
    have g := hf l[i] (List.getElem_mem _)
    rw [laws_toNodeS.l0, if_pos c1, if_pos c2, rdN_l l i h, toNode_some _ _ _ _ _ _ _ _ _ _ _ _ _ g.1 g.2.1 g.2.2 (by omega), Option.bind_some, if_pos c3, w1 (by omega), Int.toNat_natCast]
    rfl
  · intro k x3
    rw [laws_toNodeS.l0, if_neg (Int.lt_irrefl _)]
theorem eqNode1_same (b0 b1 b2 b3 b4 b5 b6 b7 : Int) (l8 : List Int) (b9 b10 : Int) (l11 : List S84) (l12 : List Int) (h8 : l8.length ≤ 1048576) (h11 : l11.length ≤ 1048576) (h12 : l12.length ≤ 1048576) {k : Nat} (hk : 1048576 < k) :
    laws_eqNode.f k b0 b1 b2 b3 b4 b5 b6 b7 l8 b9 b10 l11 l12 b0 b1 b2 b3 b4 b5 b6 b7 l8 b9 b10 l11 l12 = some true := by
  unfold laws_eqNode.f
  rw [if_pos rfl, if_pos rfl, if_pos rfl, if_pos rfl, if_pos rfl, if_pos rfl, if_pos rfl, if_pos rfl, eqInt_same l8 (by omega) (by omega), Option.bind_some, if_pos rfl, if_pos rfl, if_pos rfl, eqThing_same l11 (by omega) (by omega), Option.bind_some, if_pos rfl, eqInt_same l12 (by omega) (by omega), Option.bind_some, if_pos rfl]
theorem eqNodeS_same (x : List S37) (hl : x.length ≤ 1048576) (hf : ∀ y ∈ x, y.f8.length ≤ 1048576 ∧ y.f11.length ≤ 1048576 ∧ y.f12.length ≤ 1048576) {k : Nat} (hk : 2097154 < k) : laws_eqNodeS.f k x x = some true := by
  unfold laws_eqNodeS.f
  rw [if_pos rfl]
  refine same_gen laws_eqNodeS.l0 x 1048577 ?_ ?_ x.length k 0 (by omega) (by omega) (by omega)
  · intro k i h hk
    have c1 : (i : Int) < (x.length : Int) := by omega
    have c2 : (0 : Int) ≤ (i : Int) := by omega
    have g := hf x[i] (List.getElem_mem _)
    rw [laws_eqNodeS.l0, if_pos c1, if_pos c2, if_pos c1, rdN_i x i h, eqNode1_same _ _ _ _ _ _ _ _ _ _ _ _ _ g.1 g.2.1 g.2.2 (by omega), Option.bind_some, if_pos rfl, w1 (by omega)]
  · intro k
    rw [laws_eqNodeS.l0, if_neg (Int.lt_irrefl _)]
theorem nodes_few (l : List S32) (hf : ∀ x ∈ l, NodeFew x) : ∀ y ∈ l.map nodeOf, y.f8.length ≤ 1048576 ∧ y.f11.length ≤ 1048576 ∧ y.f12.length ≤ 1048576 := by
  intro y hy
  obtain ⟨x, hx, rfl⟩ := List.mem_map.mp hy
  have g := hf x hx
  exact ⟨g.1, by simpa [nodeOf] using g.2.1, g.2.2⟩
theorem node_sz (l : List S32) (hl : ∀ x ∈ l, ok32 x) : ∀ x ∈ l, NodeSz x := by
  intro x hx
  have h := hl x hx
  have a := h.2.2.2.2.2.2.2.2.1.2.1
  have b := h.2.2.2.2.2.2.2.2.2.2.2.1.2.1
  have c := h.2.2.2.2.2.2.2.2.2.2.2.2.2.1
  exact ⟨by omega, by omega, by omega⟩
theorem nodes_at (l : List S32) (hl : ∀ x ∈ l, ok32 x) (i : Nat) (h : i < (l.map nodeOf).length) : ok32 (l[i]'(by simpa using h)) := hl _ (List.getElem_mem _)
theorem i64_range {x : Int} (h : (Lit.int .i64 x).wf = true) : -9223372036854775808 ≤ x ∧ x ≤ 9223372036854775807 := bounds_i64 h
theorem slot_some (xs : List S37) (hn : xs.length ≤ 1048576) (a : Int) : impl_isSlot.f xs a = some (decide (0 ≤ a ∧ a < (xs.length : Int))) := by
  have e : wrap64 ((xs.length : Int) - 1) = (xs.length : Int) - 1 := by unfold wrap64; omega
  unfold impl_isSlot.f impl_within.f
  rw [e]
  by_cases h : a ≥ 0
  · rw [if_pos h, Option.bind_some]
    congr 1
    exact decide_eq_decide.mpr ⟨fun g => ⟨h, by omega⟩, fun g => by omega⟩
  · rw [if_neg h, Option.bind_some]
    congr 1
    exact (decide_eq_false (fun g => h g.1)).symm
theorem within_some (a l h : Int) : spec_l1In.f a l h = some (decide (l ≤ a ∧ a ≤ h)) := by
  unfold spec_l1In.f; by_cases g : a ≥ l
  · rw [if_pos g]; congr 1; simp; omega
  · rw [if_neg g]; congr 1; simp; omega
def marksInt (m n : Nat) : List Int := (List.range n).map fun j => (((m + j : Nat) : Int))
theorem marksInt_length (m n : Nat) : (marksInt m n).length = n := by simp [marksInt]
theorem marksInt_getD (m n i : Nat) (h : i < n) : (marksInt m n).getD i 0 = (((m + i : Nat) : Int)) := by simp [marksInt, List.getD, h]
theorem markInt_l0 (m n : Nat) (hn : m + n ≤ 4611686018427387904) : ∀ (d k i : Nat) (x : List Int), n - i = d → i ≤ n → d < k → x.length = n → x.take i = (marksInt m n).take i → laws_markIntS.l0 k x ((m + i : Nat) : Int) (i : Int) = some (((m + n : Nat) : Int), marksInt m n) := by
  intro d
  induction d with
  | zero =>
    intro k i x hd hi hk hx ht
    obtain ⟨k, rfl⟩ : ∃ m, k = m + 1 := ⟨k - 1, by omega⟩
    simp only [laws_markIntS.l0]
    rw [if_neg (by omega)]
    rw [List.take_of_length_le (by omega), List.take_of_length_le (by rw [marksInt_length]; omega)] at ht
    rw [ht, show m + i = m + n by omega]
  | succ d ih =>
    intro k i x hd hi hk hx ht
    obtain ⟨k, rfl⟩ : ∃ m, k = m + 1 := ⟨k - 1, by omega⟩
    simp only [laws_markIntS.l0]
    rw [if_pos (by omega), if_pos (by omega), w1 (by omega), w1 (by omega)]
    have := ih k (i + 1) (x.set i (((m + i : Nat) : Int))) (by omega) (by omega) (by omega) (by simpa using hx) (by
      rw [← marksInt_getD m n i (by omega)]
      exact set_take (by rw [marksInt_length]; omega) (by rw [marksInt_length]; exact hx) ht)
    rw [Int.toNat_natCast]
    exact this
theorem markInt_some (x : List Int) (m : Nat) (hn : m + x.length ≤ 4611686018427387904) {k : Nat} (hk : x.length < k) : laws_markIntS.f k x (m : Int) = some (((m + x.length : Nat) : Int), marksInt m x.length) := by
  unfold laws_markIntS.f
  exact markInt_l0 m x.length hn x.length k 0 x (by omega) (by omega) hk rfl rfl
theorem heldInt_l0 (m n : Nat) (hn : m + n ≤ 4611686018427387904) : ∀ (d k i : Nat), n - i = d → i ≤ n → d < k → laws_heldIntS.l0 k (marksInt m n) ((m + i : Nat) : Int) (i : Int) = some ((m + n : Nat) : Int) := by
  intro d
  induction d with
  | zero =>
    intro k i hd hi hk
    obtain ⟨k, rfl⟩ : ∃ m, k = m + 1 := ⟨k - 1, by omega⟩
    simp only [laws_heldIntS.l0]
    rw [if_neg (by rw [marksInt_length]; omega), show m + i = m + n by omega]
  | succ d ih =>
    intro k i hd hi hk
    obtain ⟨k, rfl⟩ : ∃ m, k = m + 1 := ⟨k - 1, by omega⟩
    simp only [laws_heldIntS.l0]
    rw [if_pos (by rw [marksInt_length]; omega), if_pos (by omega), rd_nat, marksInt_getD m n i (by omega), if_pos rfl, w1 (by omega), w1 (by omega)]
    exact ih k (i + 1) (by omega) (by omega) (by omega)
theorem heldInt_some (m n : Nat) (hn : m + n ≤ 4611686018427387904) {k : Nat} (hk : n < k) : laws_heldIntS.f k (marksInt m n) (m : Int) = some ((m + n : Nat) : Int) := by
  unfold laws_heldIntS.f
  exact heldInt_l0 m n hn n k 0 (by omega) (by omega) hk
theorem markInt_one (x : List Int) (hn : x.length ≤ 4611686018427387) {k : Nat} (hk : x.length < k) : laws_markIntS.f k x 1 = some (((1 + x.length : Nat) : Int), marksInt 1 x.length) := markInt_some x 1 (by omega) hk
theorem heldInt_one (n : Nat) (hn : n ≤ 4611686018427387) {k : Nat} (hk : n < k) : laws_heldIntS.f k (marksInt 1 n) 1 = some ((1 + n : Nat) : Int) := heldInt_some 1 n (by omega) hk
theorem rdT_at (pre t : List S84) (y : S84) : rd_T84 (pre ++ y :: t) ((pre.length : Nat) : Int) = y := by
  simp [rd_T84]
theorem rdN_at (pre t : List S37) (y : S37) : rd_T37 (pre ++ y :: t) ((pre.length : Nat) : Int) = y := by
  simp [rd_T37]
theorem set_at {α : Type} (pre t : List α) (y z : α) : (pre ++ y :: t).set (((pre.length : Nat) : Int)).toNat z = pre ++ z :: t := by
  simp
def marksTh (m : Nat) : List S84 → List S84
  | [] => []
  | _ :: t => ⟨(m : Int), ((m + 1 : Nat) : Int), ((m + 1 + 1 : Nat) : Int)⟩ :: marksTh (m + 3) t
theorem marksTh_length : ∀ (l : List S84) (m : Nat), (marksTh m l).length = l.length
  | [], _ => rfl
  | _ :: t, m => by simp [marksTh, marksTh_length t]
theorem idx_ok (a b : Nat) (k : Nat) (h : b + 1 < k + 1) : ((a : Nat) : Int) < ((a + (b + 1) : Nat) : Int) ∧ (0 : Int) ≤ (a : Int) ∧ b < k := by omega
theorem w_step (m n : Nat) (h : m + n ≤ 4611686018427387904) : wrap64 ((m : Int) + 1) = ((m + 1 : Nat) : Int) := w1 (by omega)
theorem markTh_go : ∀ (rest pre : List S84) (k m : Nat), rest.length < k → m + 3 * rest.length ≤ 4611686018427387000 → pre.length + rest.length ≤ 4611686018427387000 →
    laws_markThingS.l0 k (pre ++ rest) (m : Int) ((pre.length : Nat) : Int) = some (((m + 3 * rest.length : Nat) : Int), pre ++ marksTh m rest)
  | [], pre, k, m, hk, hm, hp => by
    obtain ⟨k, rfl⟩ : ∃ z, k = z + 1 := ⟨k - 1, by simp at hk; omega⟩
    simp only [laws_markThingS.l0, List.append_nil]
    rw [if_neg (Int.lt_irrefl _)]
    simp [marksTh]
  | y :: t, pre, k, m, hk, hm, hp => by
    cases k with
    | zero => simp at hk
    | succ k =>
    rw [List.length_cons] at hk hm hp
    obtain ⟨i1, i2, i3⟩ := idx_ok pre.length t.length k hk
    simp only [laws_markThingS.l0, rdT_at, set_at, Option.bind_some, List.length_append, List.length_cons]
    have e1 : wrap64 ((m : Int) + 1) = ((m + 1 : Nat) : Int) := w1 (by omega)
    have e2 : wrap64 (((m + 1 : Nat) : Int) + 1) = ((m + 1 + 1 : Nat) : Int) := w1 (by omega)
    have e3 : wrap64 (((m + 1 + 1 : Nat) : Int) + 1) = ((m + 3 : Nat) : Int) := w1 (by omega)
    have e4 : wrap64 (((pre.length : Nat) : Int) + 1) = ((pre.length + 1 : Nat) : Int) := w1 (by omega)
    rw [if_pos i1, if_pos i2, e1, e2, e3, e4]
    have := markTh_go t (pre ++ [⟨(m : Int), ((m + 1 : Nat) : Int), ((m + 1 + 1 : Nat) : Int)⟩]) k (m + 3) i3 (by omega) (by rw [List.length_append, List.length_singleton]; omega)
    rw [List.length_append, List.length_singleton, List.append_assoc, List.append_assoc] at this
    rw [show m + 3 * (t.length + 1) = m + 3 + 3 * t.length by omega]
    exact this
theorem markTh_some (x : List S84) (m : Nat) (hm : m + 3 * x.length ≤ 4611686018427387000) {k : Nat} (hk : x.length < k) : laws_markThingS.f k x (m : Int) = some (((m + 3 * x.length : Nat) : Int), marksTh m x) := by
  unfold laws_markThingS.f
  exact markTh_go x [] k m hk hm (by simp; omega)
/-- How many marks a node takes. -/
def nmk (y : S37) : Nat := 10 + y.f8.length + 3 * y.f11.length + y.f12.length
def tot : List S37 → Nat
  | [] => 0
  | y :: t => nmk y + tot t
def mk1 (m : Nat) (y : S37) : S37 := ⟨(m : Int), ((m + 1 : Nat) : Int), ((m + 2 : Nat) : Int), ((m + 3 : Nat) : Int), ((m + 4 : Nat) : Int), ((m + 5 : Nat) : Int), ((m + 6 : Nat) : Int), ((m + 7 : Nat) : Int), marksInt (m + 8) y.f8.length, ((m + 8 + y.f8.length : Nat) : Int), ((m + 8 + y.f8.length + 1 : Nat) : Int), marksTh (m + 8 + y.f8.length + 2) y.f11, marksInt (m + 8 + y.f8.length + 2 + 3 * y.f11.length) y.f12.length⟩
def mkL (m : Nat) : List S37 → List S37
  | [] => []
  | y :: t => mk1 m y :: mkL (m + nmk y) t
theorem mkL_length : ∀ (l : List S37) (m : Nat), (mkL m l).length = l.length
  | [], _ => rfl
  | _ :: t, m => by simp [mkL, mkL_length t]
theorem nmk_eq (m : Nat) (y : S37) : m + 8 + y.f8.length + 2 + 3 * y.f11.length + y.f12.length = m + nmk y := by unfold nmk; omega
theorem node_bounds (m a b c T : Nat) (h : m + (10 + a + 3 * b + c + T) ≤ 4611686018427387000) : m + 10 ≤ 4611686018427387000 ∧ m + 8 + a ≤ 4611686018427387000 ∧ m + 8 + a + 2 ≤ 4611686018427387000 ∧ m + 8 + a + 2 + 3 * b ≤ 4611686018427387000 ∧ m + 8 + a + 2 + 3 * b + c ≤ 4611686018427387000 ∧ m + (10 + a + 3 * b + c) + T ≤ 4611686018427387000 := by omega
theorem w1' {i : Nat} (h : i ≤ 4611686018427387000) : wrap64 ((i : Int) + 1) = ((i + 1 : Nat) : Int) := w1 (by omega)
theorem le_weak {a b c : Nat} (h : a + b ≤ c) : a ≤ c := by omega
theorem eights (m : Nat) (h : m + 10 ≤ 4611686018427387000) : wrap64 ((m : Int) + 1) = ((m + 1 : Nat) : Int) ∧ wrap64 (((m + 1 : Nat) : Int) + 1) = ((m + 2 : Nat) : Int) ∧ wrap64 (((m + 2 : Nat) : Int) + 1) = ((m + 3 : Nat) : Int) ∧ wrap64 (((m + 3 : Nat) : Int) + 1) = ((m + 4 : Nat) : Int) ∧ wrap64 (((m + 4 : Nat) : Int) + 1) = ((m + 5 : Nat) : Int) ∧ wrap64 (((m + 5 : Nat) : Int) + 1) = ((m + 6 : Nat) : Int) ∧ wrap64 (((m + 6 : Nat) : Int) + 1) = ((m + 7 : Nat) : Int) ∧ wrap64 (((m + 7 : Nat) : Int) + 1) = ((m + 8 : Nat) : Int) := by
  refine ⟨w1' (by omega), w1' (by omega), w1' (by omega), w1' (by omega), w1' (by omega), w1' (by omega), w1' (by omega), w1' (by omega)⟩
def Few (k : Nat) (y : S37) : Prop := y.f8.length < k ∧ y.f11.length < k ∧ y.f12.length < k
theorem no_neg : ∀ z : Nat, ¬ ((z : Nat) : Int) < 0 := fun z => by omega
theorem markN_go (K : Nat) : ∀ (rest pre : List S37) (k m : Nat), (∀ y, y ∈ rest → Few K y) → rest.length + K < k → m + tot rest ≤ 4611686018427387000 → pre.length + rest.length ≤ 4611686018427387000 →
    laws_markNodeS.l0 k (pre ++ rest) (m : Int) ((pre.length : Nat) : Int) = some (((m + tot rest : Nat) : Int), pre ++ mkL m rest)
  | [], pre, k, m, hf, hk, hm, hp => by
    obtain ⟨k, rfl⟩ : ∃ z, k = z + 1 := ⟨k - 1, by omega⟩
    simp only [laws_markNodeS.l0, List.append_nil]
    rw [if_neg (Int.lt_irrefl _)]
    simp [mkL, tot]
  | y :: t, pre, k, m, hf, hk, hm, hp => by
    cases k with
    | zero => exact absurd hk (Nat.not_lt_zero _)
    | succ k =>
    rw [List.length_cons] at hk hp
    have hk2 : t.length + 1 < k + 1 := by omega
    have hk3 : K < k := by omega
    have hk4 : t.length + K < k := by omega
    have hp3 : pre.length + 1 + t.length ≤ 4611686018427387000 := by omega
    obtain ⟨i1, i2, -⟩ := idx_ok pre.length t.length k hk2
    have hm' : m + (10 + y.f8.length + 3 * y.f11.length + y.f12.length + tot t) ≤ 4611686018427387000 := hm
    obtain ⟨b1, b2, b3, b4, b5, b6⟩ := node_bounds m y.f8.length y.f11.length y.f12.length (tot t) hm'
    obtain ⟨g1, g2, g3⟩ := hf y List.mem_cons_self
    obtain ⟨e1, e2, e3, e4, e5, e6, e7, e8⟩ := eights m b1
    have e9 : wrap64 (((m + 8 + y.f8.length : Nat) : Int) + 1) = ((m + 8 + y.f8.length + 1 : Nat) : Int) := w1' b2
    have e10 : wrap64 (((m + 8 + y.f8.length + 1 : Nat) : Int) + 1) = ((m + 8 + y.f8.length + 2 : Nat) : Int) := w1' (Nat.le_of_succ_le b3)
    have e11 : wrap64 (((pre.length : Nat) : Int) + 1) = ((pre.length + 1 : Nat) : Int) := w1' (le_weak hp)
    have f1 := markInt_some y.f8 (m + 8) (Nat.le_trans b2 (by decide)) (k := k) (Nat.lt_trans g1 hk3)
    have f2 := markTh_some y.f11 (m + 8 + y.f8.length + 2) b4 (k := k) (Nat.lt_trans g2 hk3)
    have f3 := markInt_some y.f12 (m + 8 + y.f8.length + 2 + 3 * y.f11.length) (Nat.le_trans b5 (by decide)) (k := k) (Nat.lt_trans g3 hk3)
    simp only [laws_markNodeS.l0, rdN_at, List.length_append, List.length_cons]
    rw [if_pos i1, if_pos i2, e1, e2, e3, e4, e5, e6, e7, e8, f1, Option.bind_some]
    simp only [e9, e10, f2, Option.bind_some, f3, set_at, e11, nmk_eq]
    have := markN_go K t (pre ++ [mk1 m y]) k (m + nmk y) (fun z hz => hf z (List.mem_cons_of_mem _ hz)) hk4 b6 (by rw [List.length_append, List.length_singleton]; exact hp3)
    rw [List.length_append, List.length_singleton, List.append_assoc, List.append_assoc] at this
    rw [show m + tot (y :: t) = m + nmk y + tot t from (Nat.add_assoc _ _ _).symm]
    exact this
theorem tot_le : ∀ (l : List S37) (K : Nat), (∀ y, y ∈ l → Few K y) → tot l ≤ l.length * (10 + 5 * K)
  | [], _, _ => Nat.zero_le _
  | y :: t, K, h => by
    have h1 := tot_le t K (fun z hz => h z (List.mem_cons_of_mem _ hz))
    obtain ⟨g1, g2, g3⟩ := h y List.mem_cons_self
    have h2 : nmk y ≤ 10 + 5 * K := by unfold nmk; omega
    rw [List.length_cons, Nat.succ_mul]
    show nmk y + tot t ≤ _
    omega
theorem tot_small (l : List S37) (hl : l.length ≤ 1048576) (h : ∀ y, y ∈ l → Few 1048577 y) : 1 + tot l ≤ 4611686018427387000 := by
  have h1 := tot_le l 1048577 h
  have h2 : l.length * (10 + 5 * 1048577) ≤ 1048576 * (10 + 5 * 1048577) := Nat.mul_le_mul_right _ hl
  have h3 : 1048576 * (10 + 5 * 1048577) + 1 ≤ 4611686018427387000 := by decide
  omega
theorem markN_some (l : List S37) (hl : l.length ≤ 1048576) (h : ∀ y, y ∈ l → Few 1048577 y) {k : Nat} (hk : 2097153 < k) : laws_markNodeS.f k l 1 = some (((1 + tot l : Nat) : Int), mkL 1 l) := by
  unfold laws_markNodeS.f
  exact markN_go 1048577 l [] k 1 h (by omega) (tot_small l hl h) (by simp; omega)
theorem heldTh_go : ∀ (rest pre : List S84) (k m : Nat), rest.length < k → m + 3 * rest.length ≤ 4611686018427387000 → pre.length + rest.length ≤ 4611686018427387000 →
    laws_heldThingS.l0 k (pre ++ marksTh m rest) (m : Int) ((pre.length : Nat) : Int) = some ((m + 3 * rest.length : Nat) : Int)
  | [], pre, k, m, hk, hm, hp => by
    obtain ⟨k, rfl⟩ : ∃ z, k = z + 1 := ⟨k - 1, by simp at hk; omega⟩
    simp only [laws_heldThingS.l0, marksTh, List.append_nil]
    rw [if_neg (Int.lt_irrefl _)]
    simp [marksTh]
  | y :: t, pre, k, m, hk, hm, hp => by
    cases k with
    | zero => simp at hk
    | succ k =>
    rw [List.length_cons] at hk hm hp
    obtain ⟨i1, i2, i3⟩ := idx_ok pre.length t.length k hk
    simp only [laws_heldThingS.l0, marksTh, rdT_at, List.length_append, List.length_cons, marksTh_length]
    have e1 : wrap64 ((m : Int) + 1) = ((m + 1 : Nat) : Int) := w1 (by omega)
    have e2 : wrap64 (((m + 1 : Nat) : Int) + 1) = ((m + 1 + 1 : Nat) : Int) := w1 (by omega)
    have e3 : wrap64 (((m + 1 + 1 : Nat) : Int) + 1) = ((m + 3 : Nat) : Int) := w1 (by omega)
    have e4 : wrap64 (((pre.length : Nat) : Int) + 1) = ((pre.length + 1 : Nat) : Int) := w1 (by omega)
    rw [if_pos i1, if_pos i2, e1, e2, e3, e4]
    simp only [↓reduceIte]
    have := heldTh_go t (pre ++ [⟨(m : Int), ((m + 1 : Nat) : Int), ((m + 1 + 1 : Nat) : Int)⟩]) k (m + 3) i3 (by omega) (by rw [List.length_append, List.length_singleton]; omega)
    rw [List.length_append, List.length_singleton, List.append_assoc] at this
    rw [show m + 3 * (t.length + 1) = m + 3 + 3 * t.length by omega]
    exact this
theorem heldTh_some (x : List S84) (m : Nat) (hm : m + 3 * x.length ≤ 4611686018427387000) {k : Nat} (hk : x.length < k) : laws_heldThingS.f k (marksTh m x) (m : Int) = some ((m + 3 * x.length : Nat) : Int) := by
  unfold laws_heldThingS.f
  exact heldTh_go x [] k m hk hm (by simp; omega)
theorem heldN_go (K : Nat) : ∀ (rest pre : List S37) (k m : Nat), (∀ y, y ∈ rest → Few K y) → rest.length + K < k → m + tot rest ≤ 4611686018427387000 → pre.length + rest.length ≤ 4611686018427387000 →
    laws_heldNodeS.l0 k (pre ++ mkL m rest) (m : Int) ((pre.length : Nat) : Int) = some ((m + tot rest : Nat) : Int)
  | [], pre, k, m, hf, hk, hm, hp => by
    obtain ⟨k, rfl⟩ : ∃ z, k = z + 1 := ⟨k - 1, by omega⟩
    simp only [laws_heldNodeS.l0, mkL, List.append_nil]
    rw [if_neg (Int.lt_irrefl _)]
    simp [mkL, tot]
  | y :: t, pre, k, m, hf, hk, hm, hp => by
    cases k with
    | zero => exact absurd hk (Nat.not_lt_zero _)
    | succ k =>
    rw [List.length_cons] at hk hp
    have hk2 : t.length + 1 < k + 1 := by omega
    have hk3 : K < k := by omega
    have hk4 : t.length + K < k := by omega
    have hp3 : pre.length + 1 + t.length ≤ 4611686018427387000 := by omega
    obtain ⟨i1, i2, -⟩ := idx_ok pre.length t.length k hk2
    have hm' : m + (10 + y.f8.length + 3 * y.f11.length + y.f12.length + tot t) ≤ 4611686018427387000 := hm
    obtain ⟨b1, b2, b3, b4, b5, b6⟩ := node_bounds m y.f8.length y.f11.length y.f12.length (tot t) hm'
    obtain ⟨g1, g2, g3⟩ := hf y List.mem_cons_self
    obtain ⟨e1, e2, e3, e4, e5, e6, e7, e8⟩ := eights m b1
    have e9 : wrap64 (((m + 8 + y.f8.length : Nat) : Int) + 1) = ((m + 8 + y.f8.length + 1 : Nat) : Int) := w1' b2
    have e10 : wrap64 (((m + 8 + y.f8.length + 1 : Nat) : Int) + 1) = ((m + 8 + y.f8.length + 2 : Nat) : Int) := w1' (Nat.le_of_succ_le b3)
    have e11 : wrap64 (((pre.length : Nat) : Int) + 1) = ((pre.length + 1 : Nat) : Int) := w1' (le_weak hp)
    have f1 := heldInt_some (m + 8) y.f8.length (Nat.le_trans b2 (by decide)) (k := k) (Nat.lt_trans g1 hk3)
    have f2 := heldTh_some y.f11 (m + 8 + y.f8.length + 2) b4 (k := k) (Nat.lt_trans g2 hk3)
    have f3 := heldInt_some (m + 8 + y.f8.length + 2 + 3 * y.f11.length) y.f12.length (Nat.le_trans b5 (by decide)) (k := k) (Nat.lt_trans g3 hk3)
    have n1 := no_neg
    simp only [laws_heldNodeS.l0, mkL, rdN_at, List.length_append, List.length_cons, mkL_length]
    rw [if_pos i1, if_pos i2, e1, e2, e3, e4, e5, e6, e7, e8]
    simp only [mk1, ↓reduceIte, f1, Option.bind_some, n1, e9, e10, f2, f3, e11, nmk_eq]
    have := heldN_go K t (pre ++ [mk1 m y]) k (m + nmk y) (fun z hz => hf z (List.mem_cons_of_mem _ hz)) hk4 b6 (by rw [List.length_append, List.length_singleton]; exact hp3)
    rw [List.length_append, List.length_singleton, List.append_assoc] at this
    rw [show m + tot (y :: t) = m + nmk y + tot t from (Nat.add_assoc _ _ _).symm]
    exact this
theorem heldN_some (l : List S37) (hl : l.length ≤ 1048576) (h : ∀ y, y ∈ l → Few 1048577 y) {k : Nat} (hk : 2097153 < k) : laws_heldNodeS.f k (mkL 1 l) 1 = some ((1 + tot l : Nat) : Int) := by
  unfold laws_heldNodeS.f
  exact heldN_go 1048577 l [] k 1 h (by omega) (tot_small l hl h) (by simp; omega)
def FewN (y : S37) : Prop := y.f8.length ≤ 1048576 ∧ y.f11.length ≤ 1048576 ∧ y.f12.length ≤ 1048576
theorem copy1S (y : S37) (h : FewN y) : spec_l7Copy.f y.f0 y.f1 y.f2 y.f3 y.f4 y.f5 y.f6 y.f7 y.f8 y.f9 y.f10 y.f11 y.f12 = some (y.f0, y.f1, y.f2, y.f3, y.f4, y.f5, y.f6, y.f7, y.f8, y.f9, y.f10, y.f11, y.f12) := by
  obtain ⟨h1, h2, h3⟩ := h
  unfold spec_l7Copy.f
  simp only [Option.bind_some, List.length_nil, Nat.zero_add, List.nil_append]
  rw [if_pos (by omega), if_pos (by omega), if_pos (by omega)]
theorem copy1I (y : S37) (h : FewN y) : impl_copyNode.f y.f0 y.f1 y.f2 y.f3 y.f4 y.f5 y.f6 y.f7 y.f8 y.f9 y.f10 y.f11 y.f12 = some (y.f0, y.f1, y.f2, y.f3, y.f4, y.f5, y.f6, y.f7, y.f8, y.f9, y.f10, y.f11, y.f12) := by
  obtain ⟨h1, h2, h3⟩ := h
  unfold impl_copyNode.f slices_Clone_int_int.f impl_Thing.f
  rw [if_pos (by omega), if_pos (by omega), if_pos (by omega)]
  rfl
theorem take_next {α : Type} (l : List α) (i : Nat) (h : i < l.length) : l.take i ++ [l[i]] = l.take (i + 1) := by
  rw [List.take_add_one, List.getElem?_eq_getElem h]
  rfl
theorem copyS (l : List S37) (hl : l.length ≤ 1048576) (hf : ∀ y, y ∈ l → FewN y) : ∀ (d k i : Nat), l.length - i = d → i ≤ l.length → d < k → spec_l7All.l0 k l (l.take i) (i : Int) = some l := by
  intro d
  induction d with
  | zero =>
    intro k i hd hi hk
    obtain ⟨k, rfl⟩ : ∃ m, k = m + 1 := ⟨k - 1, by omega⟩
    simp only [spec_l7All.l0]
    rw [if_neg (by omega), List.take_of_length_le (by omega)]
  | succ d ih =>
    intro k i hd hi hk
    obtain ⟨k, rfl⟩ : ∃ m, k = m + 1 := ⟨k - 1, by omega⟩
    have h : i < l.length := by omega
    have ht : (l.take i).length < 925904528653 := by rw [List.length_take]; omega
    simp only [spec_l7All.l0]
    rw [if_pos (by omega), if_pos (by omega), rdN_i l i h, copy1S l[i] (hf _ (List.getElem_mem h)), Option.bind_some, if_pos ht, w1 (by omega)]
    have := ih k (i + 1) (by omega) (by omega) (by omega)
    rw [← take_next l i h] at this
    exact this
theorem copyI (l : List S37) (hl : l.length ≤ 1048576) (hf : ∀ y, y ∈ l → FewN y) : ∀ (d k i : Nat), l.length - i = d → i ≤ l.length → d < k → impl_copyTable.l0 k (l.take i) l (l.length : Int) (i : Int) = some l := by
  intro d
  induction d with
  | zero =>
    intro k i hd hi hk
    obtain ⟨k, rfl⟩ : ∃ m, k = m + 1 := ⟨k - 1, by omega⟩
    simp only [impl_copyTable.l0]
    rw [if_neg (by omega), List.take_of_length_le (by omega)]
  | succ d ih =>
    intro k i hd hi hk
    obtain ⟨k, rfl⟩ : ∃ m, k = m + 1 := ⟨k - 1, by omega⟩
    have h : i < l.length := by omega
    have hI : (i : Int) < (l.length : Int) := by omega
    have ht : (l.take i).length < 925904528653 := by rw [List.length_take]; omega
    simp only [impl_copyTable.l0]
    rw [if_pos hI, if_pos (by omega), if_pos hI, rdN_i l i h, copy1I l[i] (hf _ (List.getElem_mem h)), Option.bind_some, if_pos ht, w1 (by omega)]
    have := ih k (i + 1) (by omega) (by omega) (by omega)
    rw [← take_next l i h] at this
    exact this
def clearOf (l : List S37) (a g : Int) : List S37 :=
  if 0 ≤ a ∧ a < (l.length : Int) then (if (rd_T37 l a).f1 ≥ g then l.set a.toNat ⟨3, (rd_T37 l a).f1, 0, 0, 0, 0, 0, 0, [], 0, 0, [], []⟩ else l.set a.toNat ⟨0, wrap64 ((rd_T37 l a).f1 + 1), 0, 0, 0, 0, 0, 0, [], 0, 0, [], []⟩) else l
theorem clear_spec (l : List S37) (hl : l.length ≤ 1048576) (hf : ∀ y, y ∈ l → FewN y) (a g : Int) {k : Nat} (hk : 1048577 < k) : spec_Clear.f k l a g = some (clearOf l a g) := by
  have e : wrap64 ((l.length : Int) - 1) = (l.length : Int) - 1 := by unfold wrap64; omega
  have ec := copyS l hl hf l.length k 0 (by omega) (by omega) (by omega)
  have ec' : spec_l7All.f k l = some l := ec
  unfold spec_Clear.f clearOf
  rw [ec', Option.bind_some, e, within_some, Option.bind_some]
  by_cases h : 0 ≤ a ∧ a < (l.length : Int)
  · rw [if_pos (show decide (0 ≤ a ∧ a ≤ (l.length : Int) - 1) = true by rw [decide_eq_true_iff]; omega), if_pos h.1, if_pos h.2, if_pos h]
    by_cases c : (rd_T37 l a).f1 ≥ g
    · rw [if_pos c, if_pos h.2, if_pos c]
    · rw [if_neg c, if_neg c]
      have s0 : spec_NodeNew.f (wrap64 ((rd_T37 l a).f1 + 1)) = some (0, wrap64 ((rd_T37 l a).f1 + 1), 0, 0, 0, 0, 0, 0, [], 0, 0, [], []) := rfl
      rw [s0, Option.bind_some, if_pos h.2]
  · rw [if_neg (show ¬ decide (0 ≤ a ∧ a ≤ (l.length : Int) - 1) = true by rw [decide_eq_true_iff]; omega), if_neg h]
theorem clear_impl (l : List S37) (hl : l.length ≤ 1048576) (hf : ∀ y, y ∈ l → FewN y) (a g : Int) {k : Nat} (hk : 1048577 < k) : impl_Clear.f k l a g = some (clearOf l a g) := by
  have ec := copyI l hl hf l.length k 0 (by omega) (by omega) (by omega)
  have ec' : impl_copyTable.f k l = some l := ec
  unfold impl_Clear.f clearOf
  rw [ec', Option.bind_some, slot_some l hl, Option.bind_some]
  by_cases h : 0 ≤ a ∧ a < (l.length : Int)
  · rw [decide_eq_true h, if_pos rfl, if_pos h.1, if_pos h.2, if_pos h]
    by_cases c : (rd_T37 l a).f1 ≥ g
    · rw [if_pos c, if_pos h.2, if_pos c]
    · rw [if_neg c, if_pos h.2, if_neg c]
  · rw [decide_eq_false h, if_neg Bool.false_ne_true, if_neg h]
theorem clear_few (l : List S37) (hf : ∀ y, y ∈ l → FewN y) (a g : Int) : (clearOf l a g).length = l.length ∧ ∀ y, y ∈ clearOf l a g → FewN y := by
  unfold clearOf
  by_cases h : 0 ≤ a ∧ a < (l.length : Int)
  · rw [if_pos h]
    by_cases c : (rd_T37 l a).f1 ≥ g
    · rw [if_pos c]
      refine ⟨List.length_set, fun y hy => ?_⟩
      rcases List.mem_or_eq_of_mem_set hy with hy | rfl
      · exact hf y hy
      · exact ⟨by simp, by simp, by simp⟩
    · rw [if_neg c]
      refine ⟨List.length_set, fun y hy => ?_⟩
      rcases List.mem_or_eq_of_mem_set hy with hy | rfl
      · exact hf y hy
      · exact ⟨by simp, by simp, by simp⟩
  · rw [if_neg h]
    exact ⟨rfl, hf⟩
theorem few_of {y : S37} (h : FewN y) : Few 1048577 y := ⟨Nat.lt_succ_of_le h.1, Nat.lt_succ_of_le h.2.1, Nat.lt_succ_of_le h.2.2⟩
theorem FnExactClear : laws_FnExactClear.Pure := by
  intro l a b hm hl2 hok ha hb
  obtain ⟨k, hk⟩ : ∃ k : Nat, 4000000 < k := ⟨_, Nat.lt_succ_self _⟩
  refine ⟨k, ?_⟩
  unfold laws_FnExactClear.f
  obtain ⟨r, e, g⟩ := szNodeS_val l (by omega) (node_sz l hok) (k := k) (by omega)
  rw [e, Option.bind_some]
  by_cases c : r < 0
  · rw [if_pos c]
  · rw [if_neg c]
    rcases g with g | ⟨_, _, g1, g2⟩
    · exact absurd g c
    · have hl : (l.map nodeOf).length = l.length := by simp
      have hl3 : (l.map nodeOf).length ≤ 1048576 := by omega
      have hfew := nodes_few l g2
      have hF : ∀ y, y ∈ l.map nodeOf → Few 1048577 y := fun y hy => few_of (hfew y hy)
      obtain ⟨q1, q2⟩ := clear_few (l.map nodeOf) hfew a b
      have hq3 : (clearOf (l.map nodeOf) a b).length ≤ 1048576 := by omega
      have hqF : ∀ y, y ∈ clearOf (l.map nodeOf) a b → Few 1048577 y := fun y hy => few_of (q2 y hy)
      have n1 := no_neg (1 + tot (l.map nodeOf))
      have n2 := no_neg (1 + tot (clearOf (l.map nodeOf) a b))
      simp only [toNodeS_some l g1 g2 (show 2097154 < k by omega), clear_spec (l.map nodeOf) hl3 hfew a b (show 1048577 < k by omega), clear_impl (l.map nodeOf) hl3 hfew a b (show 1048577 < k by omega), Option.bind_some, ↓reduceIte, eqNodeS_same (l.map nodeOf) hl3 hfew (show 2097154 < k by omega), eqNodeS_same (clearOf (l.map nodeOf) a b) hq3 q2 (show 2097154 < k by omega), markN_some (l.map nodeOf) hl3 hF (show 2097153 < k by omega), n1, markN_some (clearOf (l.map nodeOf) a b) hq3 hqF (show 2097153 < k by omega), heldN_some (clearOf (l.map nodeOf) a b) hq3 hqF (show 2097153 < k by omega), n2]
end Go.Proofs.Ytnloeihhimcblaa.Pure
