/- What the law FnExactAlive computes is the answer true, for all arguments within the bounds that the statement's own reading gives. No other condition. -/
import Derived.OpenShut
import Derived.Test.YtnloeihhimcblaaQFnExactAlivex6
namespace Go.Proofs.Ytnloeihhimcblaa.Pure
open Go.RowKit Go.Proofs.Ytnloeihhimcblaa.QFnExactAlive Go.Proofs.YtnloeihhimcblaaW.PrintWords Go.Proofs.YtnloeihhimcblaaW.PrintLast
set_option linter.unusedVariables false
set_option linter.unusedSimpArgs false
def ok118 (x : S118) : Prop := (Lit.int .i64 x.f0).wf = true ∧ (Lit.int .i64 x.f1).wf = true ∧ (Lit.int .i64 x.f2).wf = true
def ok32 (x : S32) : Prop := (Lit.int .i64 x.f0).wf = true ∧ (Lit.int .i64 x.f1).wf = true ∧ (Lit.int .i64 x.f2).wf = true ∧ (Lit.int .i64 x.f3).wf = true ∧ (Lit.int .i64 x.f4).wf = true ∧ (Lit.int .i64 x.f5).wf = true ∧ (Lit.int .i64 x.f6).wf = true ∧ (Lit.int .i64 x.f7).wf = true ∧ (x.f8.length ≤ maxLen ∧ x.f8.length * 8 ≤ 140737488351232 ∧ ∀ y ∈ x.f8, (Lit.int .i64 y).wf = true) ∧ (Lit.int .i64 x.f9).wf = true ∧ (Lit.int .i64 x.f10).wf = true ∧ (x.f11.length ≤ maxLen ∧ x.f11.length * 24 ≤ 140737488351232 ∧ ∀ y ∈ x.f11, ok118 y) ∧ (x.f12.length ≤ maxLen ∧ x.f12.length * 8 ≤ 140737488351232 ∧ ∀ y ∈ x.f12, (Lit.int .i64 y).wf = true)
def laws_FnExactAlive.Pure : Prop := ∀ (l0 : List S32) (a1 : Int), l0.length ≤ maxLen → l0.length * 152 ≤ 140737488351232 → (∀ x ∈ l0, ok32 x) → (Lit.int .i64 a1).wf = true → ∃ k, laws_FnExactAlive.f k l0 a1 = some true
theorem w1 {i : Nat} (h : i < 9223372036854775807) : wrap64 ((i : Int) + 1) = ((i + 1 : Nat) : Int) := by unfold wrap64; omega
theorem rd_nat (xs : List Int) (i : Nat) : rd xs (i : Int) = xs.getD i 0 := by simp [rd]
theorem getD_lt (xs : List Int) (i : Nat) (h : i < xs.length) : xs.getD i 0 = xs[i] := by simp [List.getD, List.getElem?_eq_getElem h]
theorem drop_cons (xs : List Int) (i : Nat) (h : i < xs.length) : xs.drop i = xs.getD i 0 :: xs.drop (i + 1) := by rw [getD_lt xs i h]; exact List.drop_eq_getElem_cons h
theorem set_take {x l : List Int} {i : Nat} (hi : i < l.length) (hx : x.length = l.length) (ht : x.take i = l.take i) : (x.set i (l.getD i 0)).take (i + 1) = l.take (i + 1) := by
  apply List.ext_getElem?
  intro j
  have hj := congrArg (fun z => z[j]?) ht
  simp only [List.getElem?_take] at hj ⊢
  by_cases h1 : j < i + 1
  · rw [if_pos h1, if_pos h1, List.getElem?_set]
    by_cases h2 : i = j
    · subst h2
      rw [if_pos rfl, if_pos (by omega), List.getElem?_eq_getElem hi, getD_lt l i hi]
    · rw [if_neg h2]
      rw [if_pos (by omega), if_pos (by omega)] at hj
      exact hj
  · rw [if_neg h1, if_neg h1]
/-- A loop that copies a slice, each element by a function of its own. -/
theorem copy_gen {α β : Type} (F : Nat → List α → List β → Int → Option (List β)) (c : α → β) (x0 : List α) (K : Nat)
    (step : ∀ (k i : Nat) (x3 : List β) (h : i < x0.length), x3.length = x0.length → K ≤ k → F (k + 1) x0 x3 (i : Int) = F k x0 (x3.set i (c x0[i])) ((i + 1 : Nat) : Int))
    (last : ∀ (k : Nat) (x3 : List β), F (k + 1) x0 x3 (x0.length : Int) = some x3) :
    ∀ (d k i : Nat) (x3 : List β), x0.length - i = d → i ≤ x0.length → x3.length = x0.length → x3.take i = (x0.map c).take i → d + K < k → F k x0 x3 (i : Int) = some (x0.map c) := by
  intro d
  induction d with
  | zero =>
    intro k i x3 hd hi hx ht hk
    obtain ⟨k, rfl⟩ : ∃ m, k = m + 1 := ⟨k - 1, by omega⟩
    have e : i = x0.length := by omega
    subst e
    rw [last]
    rw [List.take_of_length_le (by omega), List.take_of_length_le (by simp)] at ht
    rw [ht]
  | succ d ih =>
    intro k i x3 hd hi hx ht hk
    obtain ⟨k, rfl⟩ : ∃ m, k = m + 1 := ⟨k - 1, by omega⟩
    have h : i < x0.length := by omega
    rw [step k i x3 h hx (by omega)]
    refine ih k (i + 1) _ (by omega) (by omega) (by simpa using hx) ?_ (by omega)
    apply List.ext_getElem?
    intro j
    have hj := congrArg (fun z => z[j]?) ht
    simp only [List.getElem?_take] at hj ⊢
    by_cases h1 : j < i + 1
    · rw [if_pos h1, if_pos h1, List.getElem?_set]
      by_cases h2 : i = j
      · subst h2
        rw [if_pos rfl, if_pos (by omega)]
        simp [h]
      · rw [if_neg h2]
        rw [if_pos (by omega), if_pos (by omega)] at hj
        exact hj
    · rw [if_neg h1, if_neg h1]
/-- A loop that looks at two equal slices. -/
theorem same_gen {β : Type} (G : Nat → List β → List β → Int → Option Bool) (x : List β) (K : Nat)
    (step : ∀ (k i : Nat) (h : i < x.length), K ≤ k → G (k + 1) x x (i : Int) = G k x x ((i + 1 : Nat) : Int))
    (last : ∀ (k : Nat), G (k + 1) x x (x.length : Int) = some true) :
    ∀ (d k i : Nat), x.length - i = d → i ≤ x.length → d + K < k → G k x x (i : Int) = some true := by
  intro d
  induction d with
  | zero =>
    intro k i hd hi hk
    obtain ⟨k, rfl⟩ : ∃ m, k = m + 1 := ⟨k - 1, by omega⟩
    have e : i = x.length := by omega
    subst e
    exact last k
  | succ d ih =>
    intro k i hd hi hk
    obtain ⟨k, rfl⟩ : ∃ m, k = m + 1 := ⟨k - 1, by omega⟩
    rw [step k i (by omega) (by omega)]
    exact ih k (i + 1) (by omega) (by omega) (by omega)
theorem toInt_l0 (l : List Int) (hn : l.length ≤ 35184372088832) : ∀ (d k i : Nat) (x : List Int), l.length - i = d → i ≤ l.length → d < k → x.length = l.length → x.take i = l.take i → laws_toIntS.l0 k l x (i : Int) = some l := by
  intro d
  induction d with
  | zero =>
    intro k i x hd hi hk hx ht
    obtain ⟨k, rfl⟩ : ∃ m, k = m + 1 := ⟨k - 1, by omega⟩
    simp only [laws_toIntS.l0]
    rw [if_neg (by omega)]
    rw [List.take_of_length_le (by omega), List.take_of_length_le (by omega)] at ht
    rw [ht]
  | succ d ih =>
    intro k i x hd hi hk hx ht
    obtain ⟨k, rfl⟩ : ∃ m, k = m + 1 := ⟨k - 1, by omega⟩
    simp only [laws_toIntS.l0]
    rw [if_pos (by omega), if_pos (by omega), if_pos (by omega), w1 (by omega)]
    refine ih k (i + 1) _ (by omega) (by omega) (by omega) (by simpa using hx) ?_
    rw [rd_nat, Int.toNat_natCast]
    exact set_take (by omega) hx ht
theorem toInt_some (l : List Int) (hn : l.length ≤ 35184372088832) {k : Nat} (hk : l.length < k) : laws_toIntS.f k l = some l := by
  unfold laws_toIntS.f
  rw [if_pos (by omega), if_pos (by simpa using hn)]
  exact toInt_l0 l hn l.length k 0 _ (by omega) (by omega) hk (by simp) rfl
theorem eqInt_l0 (a b : List Int) (hab : a.length = b.length) (hn : a.length ≤ 4611686018427387904) : ∀ (d k i : Nat), a.length - i = d → i ≤ a.length → d < k → laws_eqIntS.l0 k a b (i : Int) = some (decide (a.drop i = b.drop i)) := by
  intro d
  induction d with
  | zero =>
    intro k i hd hi hk
    obtain ⟨k, rfl⟩ : ∃ m, k = m + 1 := ⟨k - 1, by omega⟩
    simp only [laws_eqIntS.l0]
    rw [if_neg (by omega), List.drop_eq_nil_of_le (by omega), List.drop_eq_nil_of_le (by omega)]
    simp
  | succ d ih =>
    intro k i hd hi hk
    obtain ⟨k, rfl⟩ : ∃ m, k = m + 1 := ⟨k - 1, by omega⟩
    simp only [laws_eqIntS.l0]
    rw [if_pos (by omega), if_pos (by omega), if_pos (by omega), rd_nat, rd_nat, drop_cons a i (by omega), drop_cons b i (by omega)]
    by_cases h : a.getD i 0 = b.getD i 0
    · rw [if_pos h, w1 (by omega), ih k (i + 1) (by omega) (by omega) (by omega), h]
      simp
    · rw [if_neg h]
      simp only [List.cons.injEq, h, false_and, decide_false]
theorem eqInt_some (a b : List Int) (hn : a.length ≤ 4611686018427387904) {k : Nat} (hk : a.length < k) : laws_eqIntS.f k a b = some (decide (a = b)) := by
  unfold laws_eqIntS.f
  by_cases h : a.length = b.length
  · rw [if_pos (by omega)]
    have := eqInt_l0 a b h hn a.length k 0 (by omega) (by omega) hk
    simpa using this
  · rw [if_neg (by omega)]
    have : a ≠ b := fun e => h (by rw [e])
    simp [this]
theorem eqInt_same (a : List Int) (hn : a.length ≤ 4611686018427387904) {k : Nat} (hk : a.length < k) : laws_eqIntS.f k a a = some true := by
  rw [eqInt_some a a hn hk]; simp
def thingOf (x : S118) : S84 := ⟨x.f0, x.f1, x.f2⟩
theorem rdT_l (xs : List S118) (i : Nat) (h : i < xs.length) : rd_T118 xs (i : Int) = xs[i] := by simp [rd_T118, List.getElem?_eq_getElem h]
theorem rdT_i (xs : List S84) (i : Nat) (h : i < xs.length) : rd_T84 xs (i : Int) = xs[i] := by simp [rd_T84, List.getElem?_eq_getElem h]
theorem toThing_some (l : List S118) (hn : l.length ≤ 5864062014805) {k : Nat} (hk : l.length < k) : laws_toThingS.f k l = some (l.map thingOf) := by
  unfold laws_toThingS.f
  rw [if_pos (by omega), if_pos (by simp; omega)]
  refine copy_gen laws_toThingS.l0 thingOf l 0 ?_ ?_ l.length k 0 _ (by omega) (by omega) (by simp) rfl (by omega)
  · intro k i x3 h hx _
    have c1 : (i : Int) < (l.length : Int) := by omega
    have c2 : (0 : Int) ≤ (i : Int) := by omega
    have c3 : (i : Int) < (x3.length : Int) := by omega
    have e : laws_toThing.f l[i].f0 l[i].f1 l[i].f2 = some (l[i].f0, l[i].f1, l[i].f2) := rfl
    rw [laws_toThingS.l0, if_pos c1, if_pos c2, rdT_l l i h, e, Option.bind_some, if_pos c3, w1 (by omega), Int.toNat_natCast]
    rfl
  · intro k x3
    rw [laws_toThingS.l0, if_neg (Int.lt_irrefl _)]
theorem eqThing1_same (a b c : Int) : laws_eqThing.f a b c a b c = some true := by simp [laws_eqThing.f]
theorem eqThing_same (x : List S84) (hn : x.length ≤ 4611686018427387904) {k : Nat} (hk : x.length < k) : laws_eqThingS.f k x x = some true := by
  unfold laws_eqThingS.f
  rw [if_pos rfl]
  refine same_gen laws_eqThingS.l0 x 0 ?_ ?_ x.length k 0 (by omega) (by omega) (by omega)
  · intro k i h _
    have c1 : (i : Int) < (x.length : Int) := by omega
    have c2 : (0 : Int) ≤ (i : Int) := by omega
    rw [laws_eqThingS.l0, if_pos c1, if_pos c2, if_pos c1, eqThing1_same, Option.bind_some, if_pos rfl, w1 (by omega)]
  · intro k
    rw [laws_eqThingS.l0, if_neg (Int.lt_irrefl _)]
theorem szInt_val (l : List Int) (a : Int) (ha : 0 ≤ a) (ha2 : a ≤ 1048576) (hl : l.length ≤ 281474976710656) : ∃ r, laws_szIntS.f l a = some r ∧ (r < 0 ∨ (0 ≤ r ∧ r ≤ a ∧ l.length ≤ 1048576)) := by
  unfold laws_szIntS.f
  have e : wrap64 (a - (l.length : Int)) = a - (l.length : Int) := by unfold wrap64; omega
  rw [e]
  by_cases h : a - (l.length : Int) < 0
  · rw [if_pos h]; exact ⟨-1, rfl, .inl (by omega)⟩
  · rw [if_neg h]; exact ⟨_, rfl, .inr ⟨by omega, by omega, by omega⟩⟩
theorem szThing_val (l : List S118) (a : Int) (ha : 0 ≤ a) (ha2 : a ≤ 1048576) (hl : l.length ≤ 281474976710656) : ∃ r, laws_szThingS.f l a = some r ∧ (r < 0 ∨ (0 ≤ r ∧ r ≤ a ∧ l.length ≤ 1048576)) := by
  unfold laws_szThingS.f
  have e : wrap64 (a - (l.length : Int)) = a - (l.length : Int) := by unfold wrap64; omega
  rw [e]
  by_cases h : a - (l.length : Int) < 0
  · rw [if_pos h]; exact ⟨-1, rfl, .inl (by omega)⟩
  · rw [if_neg h]; exact ⟨_, rfl, .inr ⟨by omega, by omega, by omega⟩⟩
theorem szNode_val (b0 b1 b2 b3 b4 b5 b6 b7 : Int) (l8 : List Int) (b9 b10 : Int) (l11 : List S118) (l12 : List Int) (a : Int) (ha : 0 ≤ a) (ha2 : a ≤ 1048576) (h8 : l8.length ≤ 281474976710656) (h11 : l11.length ≤ 281474976710656) (h12 : l12.length ≤ 281474976710656) :
    ∃ r, laws_szNode.f b0 b1 b2 b3 b4 b5 b6 b7 l8 b9 b10 l11 l12 a = some r ∧ (r < 0 ∨ (0 ≤ r ∧ r ≤ a ∧ l8.length ≤ 1048576 ∧ l11.length ≤ 1048576 ∧ l12.length ≤ 1048576)) := by
  unfold laws_szNode.f
  obtain ⟨r1, e1, g1⟩ := szInt_val l8 a ha ha2 h8
  rw [e1, Option.bind_some]
  by_cases c1 : r1 < 0
  · rw [if_pos c1]; exact ⟨-1, rfl, .inl (by omega)⟩
  · rw [if_neg c1]
    obtain ⟨r2, e2, g2⟩ := szThing_val l11 r1 (by omega) (by omega) h11
    rw [e2, Option.bind_some]
    by_cases c2 : r2 < 0
    · rw [if_pos c2]; exact ⟨-1, rfl, .inl (by omega)⟩
    · rw [if_neg c2]
      obtain ⟨r3, e3, g3⟩ := szInt_val l12 r2 (by omega) (by omega) h12
      rw [e3, Option.bind_some]
      by_cases c3 : r3 < 0
      · rw [if_pos c3]; exact ⟨-1, rfl, .inl (by omega)⟩
      · rw [if_neg c3]; exact ⟨r3, rfl, .inr (by omega)⟩
/-- The slices of a node are as the machine allows. -/
def NodeSz (x : S32) : Prop := x.f8.length ≤ 281474976710656 ∧ x.f11.length ≤ 281474976710656 ∧ x.f12.length ≤ 281474976710656
def NodeFew (x : S32) : Prop := x.f8.length ≤ 1048576 ∧ x.f11.length ≤ 1048576 ∧ x.f12.length ≤ 1048576
theorem rdN_l (xs : List S32) (i : Nat) (h : i < xs.length) : rd_T32 xs (i : Int) = xs[i] := by simp [rd_T32, List.getElem?_eq_getElem h]
theorem rdN_i (xs : List S37) (i : Nat) (h : i < xs.length) : rd_T37 xs (i : Int) = xs[i] := by simp [rd_T37, List.getElem?_eq_getElem h]
theorem szNodeS_l0 (l : List S32) (hl : l.length ≤ 1048576) (hs : ∀ x ∈ l, NodeSz x) : ∀ (d k i : Nat) (a : Int), l.length - i = d → i ≤ l.length → d < k → 0 ≤ a → a ≤ 1048576 → (∀ j (h : j < l.length), j < i → NodeFew l[j]) →
    ∃ r, laws_szNodeS.l0 k l a (i : Int) = some r ∧ (r < 0 ∨ (0 ≤ r ∧ r ≤ 1048576 ∧ ∀ x ∈ l, NodeFew x)) := by
  intro d
  induction d with
  | zero =>
    intro k i a hd hi hk ha ha2 hf
    obtain ⟨k, rfl⟩ : ∃ m, k = m + 1 := ⟨k - 1, by omega⟩
    have c : ¬ (i : Int) < (l.length : Int) := by omega
    rw [laws_szNodeS.l0, if_neg c]
    refine ⟨a, rfl, .inr ⟨ha, ha2, fun x hx => ?_⟩⟩
    obtain ⟨j, hj, rfl⟩ := List.getElem_of_mem hx
    exact hf j hj (by omega)
  | succ d ih =>
    intro k i a hd hi hk ha ha2 hf
    obtain ⟨k, rfl⟩ : ∃ m, k = m + 1 := ⟨k - 1, by omega⟩
    have c : (i : Int) < (l.length : Int) := by omega
    have c0 : (0 : Int) ≤ (i : Int) := by omega
    have hi' : i < l.length := by omega
    have hz := hs l[i] (List.getElem_mem _)
    obtain ⟨r, e, g⟩ := szNode_val l[i].f0 l[i].f1 l[i].f2 l[i].f3 l[i].f4 l[i].f5 l[i].f6 l[i].f7 l[i].f8 l[i].f9 l[i].f10 l[i].f11 l[i].f12 a ha ha2 hz.1 hz.2.1 hz.2.2
    rw [laws_szNodeS.l0, if_pos c, if_pos c0, rdN_l l i hi', e, Option.bind_some]
    by_cases c1 : r < 0
    · rw [if_pos c1]; exact ⟨-1, rfl, .inl (by omega)⟩
    · rw [if_neg c1, w1 (by omega)]
      refine ih k (i + 1) r (by omega) (by omega) (by omega) (by omega) (by omega) (fun j h hj => ?_)
      by_cases ej : j = i
      · subst ej
        rcases g with g | g
        · exact absurd g c1
        · exact ⟨g.2.2.1, g.2.2.2.1, g.2.2.2.2⟩
      · exact hf j h (by omega)
theorem szNodeS_gen (l : List S32) (b : Int) (hb : 0 ≤ b) (hb2 : b ≤ 1048576) (hl : l.length ≤ 281474976710656) (hs : ∀ x ∈ l, NodeSz x) {k : Nat} (hk : 1048576 < k) :
    ∃ r, laws_szNodeS.f k l b = some r ∧ (r < 0 ∨ (0 ≤ r ∧ r ≤ 1048576 ∧ l.length ≤ 1048576 ∧ ∀ x ∈ l, NodeFew x)) := by
  unfold laws_szNodeS.f
  have e : wrap64 (b - (l.length : Int)) = b - (l.length : Int) := by unfold wrap64; omega
  rw [e]
  by_cases h : b - (l.length : Int) < 0
  · rw [if_pos h]; exact ⟨-1, rfl, .inl (by omega)⟩
  · rw [if_neg h]
    obtain ⟨r, e, g⟩ := szNodeS_l0 l (by omega) hs l.length k 0 (b - (l.length : Int)) (by omega) (by omega) (by omega) (by omega) (by omega) (fun j h hj => by omega)
    refine ⟨r, e, ?_⟩
    rcases g with g | g
    · exact .inl g
    · exact .inr ⟨g.1, g.2.1, by omega, g.2.2⟩
theorem szNodeS_val (l : List S32) (hl : l.length ≤ 281474976710656) (hs : ∀ x ∈ l, NodeSz x) {k : Nat} (hk : 1048576 < k) :
    ∃ r, laws_szNodeS.f k l 1048576 = some r ∧ (r < 0 ∨ (0 ≤ r ∧ r ≤ 1048576 ∧ l.length ≤ 1048576 ∧ ∀ x ∈ l, NodeFew x)) := szNodeS_gen l 1048576 (by omega) (by omega) hl hs hk
theorem toNode_some (b0 b1 b2 b3 b4 b5 b6 b7 : Int) (l8 : List Int) (b9 b10 : Int) (l11 : List S118) (l12 : List Int) (h8 : l8.length ≤ 1048576) (h11 : l11.length ≤ 1048576) (h12 : l12.length ≤ 1048576) {k : Nat} (hk : 1048576 < k) :
    laws_toNode.f k b0 b1 b2 b3 b4 b5 b6 b7 l8 b9 b10 l11 l12 = some (b0, b1, b2, b3, b4, b5, b6, b7, l8, b9, b10, l11.map thingOf, l12) := by
  unfold laws_toNode.f
  rw [toInt_some l8 (by omega) (by omega), Option.bind_some, toThing_some l11 (by omega) (by omega), Option.bind_some, toInt_some l12 (by omega) (by omega), Option.bind_some]
def nodeOf (x : S32) : S37 := ⟨x.f0, x.f1, x.f2, x.f3, x.f4, x.f5, x.f6, x.f7, x.f8, x.f9, x.f10, x.f11.map thingOf, x.f12⟩
theorem toNodeS_some (l : List S32) (hl : l.length ≤ 1048576) (hf : ∀ x ∈ l, NodeFew x) {k : Nat} (hk : 2097154 < k) : laws_toNodeS.f k l = some (l.map nodeOf) := by
  unfold laws_toNodeS.f
  rw [if_pos (by omega), if_pos (by simp; omega)]
  refine copy_gen laws_toNodeS.l0 nodeOf l 1048577 ?_ ?_ l.length k 0 _ (by omega) (by omega) (by simp) rfl (by omega)
  · intro k i x3 h hx hk
    have c1 : (i : Int) < (l.length : Int) := by omega
    have c2 : (0 : Int) ≤ (i : Int) := by omega
    have c3 : (i : Int) < (x3.length : Int) := by omega
    have g := hf l[i] (List.getElem_mem _)
    rw [laws_toNodeS.l0, if_pos c1, if_pos c2, rdN_l l i h, toNode_some _ _ _ _ _ _ _ _ _ _ _ _ _ g.1 g.2.1 g.2.2 (by omega), Option.bind_some, if_pos c3, w1 (by omega), Int.toNat_natCast]
    rfl
  · intro k x3
    rw [laws_toNodeS.l0, if_neg (Int.lt_irrefl _)]
theorem eqNode1_same (b0 b1 b2 b3 b4 b5 b6 b7 : Int) (l8 : List Int) (b9 b10 : Int) (l11 : List S84) (l12 : List Int) (h8 : l8.length ≤ 1048576) (h11 : l11.length ≤ 1048576) (h12 : l12.length ≤ 1048576) {k : Nat} (hk : 1048576 < k) :
    laws_eqNode.f k b0 b1 b2 b3 b4 b5 b6 b7 l8 b9 b10 l11 l12 b0 b1 b2 b3 b4 b5 b6 b7 l8 b9 b10 l11 l12 = some true := by
  unfold laws_eqNode.f
  rw [if_pos rfl, if_pos rfl, if_pos rfl, if_pos rfl, if_pos rfl, if_pos rfl, if_pos rfl, if_pos rfl, eqInt_same l8 (by omega) (by omega), Option.bind_some, if_pos rfl, if_pos rfl, if_pos rfl, eqThing_same l11 (by omega) (by omega), Option.bind_some, if_pos rfl, eqInt_same l12 (by omega) (by omega), Option.bind_some, if_pos rfl]
theorem eqNodeS_same (x : List S37) (hl : x.length ≤ 1048576) (hf : ∀ y ∈ x, y.f8.length ≤ 1048576 ∧ y.f11.length ≤ 1048576 ∧ y.f12.length ≤ 1048576) {k : Nat} (hk : 2097154 < k) : laws_eqNodeS.f k x x = some true := by
  unfold laws_eqNodeS.f
  rw [if_pos rfl]
  refine same_gen laws_eqNodeS.l0 x 1048577 ?_ ?_ x.length k 0 (by omega) (by omega) (by omega)
  · intro k i h hk
    have c1 : (i : Int) < (x.length : Int) := by omega
    have c2 : (0 : Int) ≤ (i : Int) := by omega
    have g := hf x[i] (List.getElem_mem _)
    rw [laws_eqNodeS.l0, if_pos c1, if_pos c2, if_pos c1, rdN_i x i h, eqNode1_same _ _ _ _ _ _ _ _ _ _ _ _ _ g.1 g.2.1 g.2.2 (by omega), Option.bind_some, if_pos rfl, w1 (by omega)]
  · intro k
    rw [laws_eqNodeS.l0, if_neg (Int.lt_irrefl _)]
theorem nodes_few (l : List S32) (hf : ∀ x ∈ l, NodeFew x) : ∀ y ∈ l.map nodeOf, y.f8.length ≤ 1048576 ∧ y.f11.length ≤ 1048576 ∧ y.f12.length ≤ 1048576 := by
  intro y hy
  obtain ⟨x, hx, rfl⟩ := List.mem_map.mp hy
  have g := hf x hx
  exact ⟨g.1, by simpa [nodeOf] using g.2.1, g.2.2⟩
theorem node_sz (l : List S32) (hl : ∀ x ∈ l, ok32 x) : ∀ x ∈ l, NodeSz x := by
  intro x hx
  have h := hl x hx
  have a := h.2.2.2.2.2.2.2.2.1.2.1
  have b := h.2.2.2.2.2.2.2.2.2.2.2.1.2.1
  have c := h.2.2.2.2.2.2.2.2.2.2.2.2.2.1
  exact ⟨by omega, by omega, by omega⟩
theorem nodes_at (l : List S32) (hl : ∀ x ∈ l, ok32 x) (i : Nat) (h : i < (l.map nodeOf).length) : ok32 (l[i]'(by simpa using h)) := hl _ (List.getElem_mem _)
theorem i64_range {x : Int} (h : (Lit.int .i64 x).wf = true) : -9223372036854775808 ≤ x ∧ x ≤ 9223372036854775807 := bounds_i64 h
theorem slot_some (xs : List S37) (hn : xs.length ≤ 1048576) (a : Int) : impl_isSlot.f xs a = some (decide (0 ≤ a ∧ a < (xs.length : Int))) := by
  have e : wrap64 ((xs.length : Int) - 1) = (xs.length : Int) - 1 := by unfold wrap64; omega
  unfold impl_isSlot.f impl_within.f
  rw [e]
  by_cases h : a ≥ 0
  · rw [if_pos h, Option.bind_some]
    congr 1
    exact decide_eq_decide.mpr ⟨fun g => ⟨h, by omega⟩, fun g => by omega⟩
  · rw [if_neg h, Option.bind_some]
    congr 1
    exact (decide_eq_false (fun g => h g.1)).symm
/-- A way up: each place leads to the next one. -/
def Leads (xs : List S37) (r : List Int) : Prop := (∀ y ∈ r, 0 ≤ y ∧ y < (xs.length : Int)) ∧ ∀ j (h : j + 1 < r.length), r[j + 1] = wrap64 ((rd_T37 xs (r[j]'(by omega))).f3 - 1)
theorem place9_some (xs : List S37) (a : Int) : spec_l9Place.f xs a = some (decide (1 ≤ a ∧ a ≤ (xs.length : Int))) := by
  unfold spec_l9Place.f
  by_cases h : a ≥ 1
  · rw [if_pos h]
    congr 1
    exact decide_eq_decide.mpr ⟨fun g => ⟨h, g⟩, fun g => g.2⟩
  · rw [if_neg h]
    congr 1
    exact (decide_eq_false (fun g => h g.1)).symm
theorem wrap_range (x : Int) : -9223372036854775808 ≤ wrap64 x ∧ wrap64 x ≤ 9223372036854775807 := by unfold wrap64; omega
theorem place9_next (xs : List S37) (hn : xs.length ≤ 1048576) (x : Int) (hx : -9223372036854775808 ≤ x ∧ x ≤ 9223372036854775807) : spec_l9Place.f xs (wrap64 (x + 1)) = some (decide (0 ≤ x ∧ x < (xs.length : Int))) := by
  rw [place9_some]
  congr 1
  exact decide_eq_decide.mpr (by unfold wrap64; omega)
theorem rise_same (xs : List S37) (hn : xs.length ≤ 1048576) : ∀ (d k : Nat) (x1 : Int) (x5 : List Int), xs.length - x5.length = d → x5.length ≤ xs.length → d < k → -9223372036854775808 ≤ x1 ∧ x1 ≤ 9223372036854775807 →
    Leads xs x5 → (∀ h : 0 < x5.length, x1 = wrap64 ((rd_T37 xs (x5[x5.length - 1]'(by omega))).f3 - 1)) → ∃ r, spec_Rise.l0 k xs x1 x5 = some r ∧ impl_Rise.l0 k xs x1 x5 = some r ∧ r.length ≤ xs.length ∧ Leads xs r := by
  intro d
  induction d with
  | zero =>
    intro k x1 x5 hd hx hk hr hL hl
    obtain ⟨k, rfl⟩ : ∃ m, k = m + 1 := ⟨k - 1, by omega⟩
    rw [spec_Rise.l0, impl_Rise.l0, place9_next xs hn x1 hr, slot_some xs hn x1, Option.bind_some, Option.bind_some]
    have c : ¬ (x5.length : Int) < (xs.length : Int) := by omega
    rw [if_neg c]
    split
    · exact ⟨_, rfl, rfl, hx, hL⟩
    · exact ⟨_, rfl, rfl, hx, hL⟩
  | succ d ih =>
    intro k x1 x5 hd hx hk hr hL hl
    obtain ⟨k, rfl⟩ : ∃ m, k = m + 1 := ⟨k - 1, by omega⟩
    rw [spec_Rise.l0, impl_Rise.l0, place9_next xs hn x1 hr, slot_some xs hn x1, Option.bind_some, Option.bind_some]
    by_cases h : 0 ≤ x1 ∧ x1 < (xs.length : Int)
    · have c : (x5.length : Int) < (xs.length : Int) := by omega
      have c2 : x5.length < 17592186044416 := by omega
      rw [decide_eq_true h, if_pos rfl, if_pos rfl, if_pos c, if_pos c, if_pos c2, if_pos c2, if_pos h.1, if_pos h.1, if_pos h.2, if_pos h.2]
      refine ih k _ (x5 ++ [x1]) (by simp; omega) (by simp; omega) (by omega) (wrap_range _) ⟨?_, ?_⟩ ?_
      · intro y hy
        rcases List.mem_append.mp hy with hy | hy
        · exact hL.1 y hy
        · simp only [List.mem_singleton] at hy
          rw [hy]; exact h
      · intro j hj
        simp only [List.length_append, List.length_cons, List.length_nil] at hj
        by_cases e : j + 1 < x5.length
        · rw [List.getElem_append_left e, List.getElem_append_left (by omega)]
          exact hL.2 j e
        · have e2 : j + 1 = x5.length := by omega
          have h0 : 0 < x5.length := by omega
          rw [List.getElem_append_right (by omega), List.getElem_append_left (by omega)]
          have := hl h0
          simp only [← e2, Nat.sub_self, List.getElem_cons_zero, Nat.add_sub_cancel] at this ⊢
          exact this
      · intro _
        simp
    · rw [decide_eq_false h]
      exact ⟨_, rfl, rfl, hx, hL⟩
theorem rise_some (xs : List S37) (hn : xs.length ≤ 1048576) (a : Int) (ha : -9223372036854775808 ≤ a ∧ a ≤ 9223372036854775807) {k : Nat} (hk : 1048577 < k) : ∃ r, spec_Rise.f k xs a = some r ∧ impl_Rise.f k xs a = some r ∧ r.length ≤ xs.length ∧ Leads xs r :=
  rise_same xs hn xs.length k a [] (by simp) (by simp) (by omega) ha ⟨by simp, fun j h => by simp at h⟩ (fun h => by simp at h)
def F3In (xs : List S37) : Prop := ∀ y : Int, -9223372036854775808 ≤ (rd_T37 xs y).f3 ∧ (rd_T37 xs y).f3 ≤ 9223372036854775807
theorem f3_in (l : List S32) (hl : ∀ x ∈ l, ok32 x) : F3In (l.map nodeOf) := by
  intro y
  simp only [rd_T37]
  by_cases h : y.toNat < l.length
  · have e : (l.map nodeOf).getD y.toNat z37 = nodeOf l[y.toNat] := by simp [List.getD, List.getElem?_eq_getElem h]
    rw [e]
    exact i64_range (hl l[y.toNat] (List.getElem_mem _)).2.2.2.1
  · have e : (l.map nodeOf).getD y.toNat z37 = z37 := by
      rw [List.getD, List.getElem?_eq_none (by simpa using h)]; rfl
    rw [e]
    simp [z37]
theorem rd_get (r : List Int) (i : Nat) (h : i < r.length) : rd r (i : Int) = r[i] := by rw [rd_nat, getD_lt r i h]
theorem in9_some (xs : List S37) (hn : xs.length ≤ 1048576) (hf : F3In xs) (y z : Int) (hy : 0 ≤ y ∧ y < (xs.length : Int)) (hz : 0 ≤ z ∧ z < (xs.length : Int)) (e : z = wrap64 ((rd_T37 xs y).f3 - 1)) :
    spec_l9In.f xs y = if (rd_T37 xs z).f0 = 1 then some ((rd_T37 xs z).f2 == (rd_T37 xs y).f4) else some false := by
  have h := hf y
  have c : 1 ≤ (rd_T37 xs y).f3 ∧ (rd_T37 xs y).f3 ≤ (xs.length : Int) := by
    have e2 := e
    unfold wrap64 at e2
    omega
  unfold spec_l9In.f
  rw [if_pos hy.1, if_pos hy.2, place9_some, Option.bind_some, decide_eq_true c, if_pos rfl, ← e, if_pos hz.1, if_pos hz.2]
theorem alive_same (xs : List S37) (hn : xs.length ≤ 1048576) (hf : F3In xs) (r : List Int) (hr : r.length ≤ xs.length) (hL : Leads xs r) : ∀ (d k i : Nat), r.length - i = d → i ≤ r.length → d + 1 < k →
    ∃ b, spec_Alive.l0 k xs r (i : Int) = some b ∧ impl_Alive.l0 k xs r r (r.length : Int) (i : Int) = some b := by
  intro d
  induction d with
  | zero =>
    intro k i hd hi hk
    obtain ⟨k, rfl⟩ : ∃ m, k = m + 1 := ⟨k - 1, by omega⟩
    have c : ¬ (i : Int) < (r.length : Int) := by omega
    rw [spec_Alive.l0, impl_Alive.l0, if_neg c, if_neg c]
    by_cases h : (r.length : Int) > 0
    · have e : wrap64 ((r.length : Int) - 1) = ((r.length - 1 : Nat) : Int) := by unfold wrap64; omega
      have c1 : (0 : Int) ≤ ((r.length - 1 : Nat) : Int) := by omega
      have c2 : ((r.length - 1 : Nat) : Int) < (r.length : Int) := by omega
      have hy := hL.1 (r[r.length - 1]'(by omega)) (List.getElem_mem _)
      simp only [if_pos h, e, if_pos c1, if_pos c2, rd_get r (r.length - 1) (by omega), if_pos hy.1, if_pos hy.2]
      exact ⟨_, rfl, rfl⟩
    · simp only [if_neg h]
      exact ⟨_, rfl, rfl⟩
  | succ d ih =>
    intro k i hd hi hk
    obtain ⟨k, rfl⟩ : ∃ m, k = m + 1 := ⟨k - 1, by omega⟩
    have hi' : i < r.length := by omega
    have c : (i : Int) < (r.length : Int) := by omega
    have c0 : (0 : Int) ≤ (i : Int) := by omega
    have hy := hL.1 r[i] (List.getElem_mem _)
    obtain ⟨b, n1, n2⟩ := ih k (i + 1) (by omega) (by omega) (by omega)
    rw [spec_Alive.l0, impl_Alive.l0, if_pos c, if_pos c, if_pos c0, if_pos c0, if_pos c, w1 (by omega), rd_get r i hi', if_pos hy.1, if_pos hy.1, if_pos hy.2, if_pos hy.2]
    by_cases g : (rd_T37 xs r[i]).f0 = 1
    · rw [if_pos g, if_pos g]
      by_cases t : ((i + 1 : Nat) : Int) < (r.length : Int)
      · have hi2 : i + 1 < r.length := by omega
        have hz := hL.1 (r[i + 1]'hi2) (List.getElem_mem _)
        have c1 : (0 : Int) ≤ ((i + 1 : Nat) : Int) := by omega
        have hl := hL.2 i hi2
        rw [if_pos t, if_pos t, if_pos c1, rd_get r (i + 1) hi2, if_pos hz.1, if_pos hz.2, in9_some xs hn hf r[i] (r[i + 1]'hi2) hy hz hl]
        by_cases q : (rd_T37 xs (r[i + 1]'hi2)).f0 = 1
        · rw [if_pos q, Option.bind_some]
          by_cases p : (rd_T37 xs r[i]).f4 = (rd_T37 xs (r[i + 1]'hi2)).f2
          · have p' : ((rd_T37 xs (r[i + 1]'hi2)).f2 == (rd_T37 xs r[i]).f4) = true := by simp only [beq_iff_eq]; exact p.symm
            rw [if_pos p, if_pos p']
            exact ⟨b, n1, n2⟩
          · have p' : ¬ ((rd_T37 xs (r[i + 1]'hi2)).f2 == (rd_T37 xs r[i]).f4) = true := by simp only [beq_iff_eq]; exact fun e => p e.symm
            rw [if_neg p, if_neg p']
            exact ⟨false, rfl, rfl⟩
        · rw [if_neg q, Option.bind_some, if_neg (Bool.false_ne_true)]
          refine ⟨false, rfl, ?_⟩
          by_cases p : (rd_T37 xs r[i]).f4 = (rd_T37 xs (r[i + 1]'hi2)).f2
          · rw [if_pos p]
            obtain ⟨k, rfl⟩ : ∃ m, k = m + 1 := ⟨k - 1, by omega⟩
            rw [impl_Alive.l0, if_pos t, if_pos c1, if_pos t, rd_get r (i + 1) hi2, if_pos hz.1, if_pos hz.2, if_neg q]
          · rw [if_neg p]
      · rw [if_neg t, if_neg t]
        exact ⟨b, n1, n2⟩
    · rw [if_neg g, if_neg g]
      exact ⟨false, rfl, rfl⟩
theorem FnExactAlive : laws_FnExactAlive.Pure := by
  intro l a hm hl2 hok ha
  obtain ⟨k, hk⟩ : ∃ k : Nat, 4000000 < k := ⟨_, Nat.lt_succ_self _⟩
  refine ⟨k, ?_⟩
  unfold laws_FnExactAlive.f
  obtain ⟨r, e, g⟩ := szNodeS_val l (by omega) (node_sz l hok) (k := k) (by omega)
  rw [e, Option.bind_some]
  by_cases c : r < 0
  · rw [if_pos c]
  · rw [if_neg c]
    rcases g with g | ⟨_, _, g1, g2⟩
    · exact absurd g c
    · have hl : (l.map nodeOf).length = l.length := by simp
      obtain ⟨q, e1, e2, hq, hL⟩ := rise_some (l.map nodeOf) (by omega) a (i64_range ha) (k := k) (by omega)
      obtain ⟨b, a1, a2⟩ := alive_same (l.map nodeOf) (by omega) (f3_in l hok) q hq hL q.length k 0 (by omega) (by omega) (by omega)
      have e1' : spec_Alive.f k (l.map nodeOf) a = some b := by unfold spec_Alive.f; rw [e1]; exact a1
      have e2' : impl_Alive.f k (l.map nodeOf) a = some b := by unfold impl_Alive.f; rw [e2]; exact a2
      simp only [toNodeS_some l g1 g2 (show 2097154 < k by omega), e1', e2', Option.bind_some, ↓reduceIte, bne_self_eq_false, Bool.false_eq_true, eqNodeS_same (l.map nodeOf) (by omega) (nodes_few l g2) (show 2097154 < k by omega)]
end Go.Proofs.Ytnloeihhimcblaa.Pure
