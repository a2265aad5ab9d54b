/- What the law FnExactPlaceOf computes is the answer true, for all arguments within the bounds that the statement's own reading gives. No other condition. -/
import Derived.OpenShut
import Derived.Test.YtmfffepjkmgmjaaQFnExactPlaceOfx7
namespace Go.Proofs.Ytmfffepjkmgmjaa.Pure
open Go.RowKit Go.Proofs.Ytmfffepjkmgmjaa.QFnExactPlaceOf Go.Proofs.YtmfffepjkmgmjaaW.PrintWords Go.Proofs.YtmfffepjkmgmjaaW.PrintLast
set_option linter.unusedVariables false
set_option linter.unusedSimpArgs false
def ok120 (x : S120) : Prop := (Lit.int .i64 x.f0).wf = true ∧ (Lit.int .i64 x.f1).wf = true ∧ (Lit.int .i64 x.f2).wf = true
def ok38 (x : S38) : Prop := (Lit.int .i64 x.f0).wf = true ∧ (Lit.int .i64 x.f1).wf = true ∧ (Lit.int .i64 x.f2).wf = true ∧ (Lit.int .i64 x.f3).wf = true ∧ (Lit.int .i64 x.f4).wf = true ∧ (Lit.int .i64 x.f5).wf = true ∧ (Lit.int .i64 x.f6).wf = true ∧ (Lit.int .i64 x.f7).wf = true ∧ (x.f8.length ≤ maxLen ∧ x.f8.length * 8 ≤ 140737488351232 ∧ ∀ y ∈ x.f8, (Lit.int .i64 y).wf = true) ∧ (Lit.int .i64 x.f9).wf = true ∧ (Lit.int .i64 x.f10).wf = true ∧ (x.f11.length ≤ maxLen ∧ x.f11.length * 24 ≤ 140737488351232 ∧ ∀ y ∈ x.f11, ok120 y) ∧ (x.f12.length ≤ maxLen ∧ x.f12.length * 8 ≤ 140737488351232 ∧ ∀ y ∈ x.f12, (Lit.int .i64 y).wf = true)
def laws_FnExactPlaceOf.Pure : Prop := ∀ (l0 : List S38) (a1_0 : Int) (a1_1 : Int), l0.length ≤ maxLen → l0.length * 152 ≤ 140737488351232 → (∀ x ∈ l0, ok38 x) → (Lit.int .i64 a1_0).wf = true → (Lit.int .i64 a1_1).wf = true → ∃ k, laws_FnExactPlaceOf.f k l0 a1_0 a1_1 = some true
theorem w1 {i : Nat} (h : i < 9223372036854775807) : wrap64 ((i : Int) + 1) = ((i + 1 : Nat) : Int) := by unfold wrap64; omega
theorem rd_nat (xs : List Int) (i : Nat) : rd xs (i : Int) = xs.getD i 0 := by simp [rd]
theorem getD_lt (xs : List Int) (i : Nat) (h : i < xs.length) : xs.getD i 0 = xs[i] := by simp [List.getD, List.getElem?_eq_getElem h]
theorem drop_cons (xs : List Int) (i : Nat) (h : i < xs.length) : xs.drop i = xs.getD i 0 :: xs.drop (i + 1) := by rw [getD_lt xs i h]; exact List.drop_eq_getElem_cons h
theorem set_take {x l : List Int} {i : Nat} (hi : i < l.length) (hx : x.length = l.length) (ht : x.take i = l.take i) : (x.set i (l.getD i 0)).take (i + 1) = l.take (i + 1) := by
  apply List.ext_getElem?
  intro j
  have hj := congrArg (fun z => z[j]?) ht
  simp only [List.getElem?_take] at hj ⊢
  by_cases h1 : j < i + 1
  · rw [if_pos h1, if_pos h1, List.getElem?_set]
    by_cases h2 : i = j
    · subst h2
      rw [if_pos rfl, if_pos (by omega), List.getElem?_eq_getElem hi, getD_lt l i hi]
    · rw [if_neg h2]
      rw [if_pos (by omega), if_pos (by omega)] at hj
      exact hj
  · rw [if_neg h1, if_neg h1]
/-- A loop that copies a slice, each element by a function of its own. -/
theorem copy_gen {α β : Type} (F : Nat → List α → List β → Int → Option (List β)) (c : α → β) (x0 : List α) (K : Nat)
    (step : ∀ (k i : Nat) (x3 : List β) (h : i < x0.length), x3.length = x0.length → K ≤ k → F (k + 1) x0 x3 (i : Int) = F k x0 (x3.set i (c x0[i])) ((i + 1 : Nat) : Int))
    (last : ∀ (k : Nat) (x3 : List β), F (k + 1) x0 x3 (x0.length : Int) = some x3) :
    ∀ (d k i : Nat) (x3 : List β), x0.length - i = d → i ≤ x0.length → x3.length = x0.length → x3.take i = (x0.map c).take i → d + K < k → F k x0 x3 (i : Int) = some (x0.map c) := by
  intro d
  induction d with
  | zero =>
    intro k i x3 hd hi hx ht hk
    obtain ⟨k, rfl⟩ : ∃ m, k = m + 1 := ⟨k - 1, by omega⟩
    have e : i = x0.length := by omega
    subst e
    rw [last]
    rw [List.take_of_length_le (by omega), List.take_of_length_le (by simp)] at ht
    rw [ht]
  | succ d ih =>
    intro k i x3 hd hi hx ht hk
    obtain ⟨k, rfl⟩ : ∃ m, k = m + 1 := ⟨k - 1, by omega⟩
    have h : i < x0.length := by omega
    rw [step k i x3 h hx (by omega)]
    refine ih k (i + 1) _ (by omega) (by omega) (by simpa using hx) ?_ (by omega)
    apply List.ext_getElem?
    intro j
    have hj := congrArg (fun z => z[j]?) ht
    simp only [List.getElem?_take] at hj ⊢
    by_cases h1 : j < i + 1
    · rw [if_pos h1, if_pos h1, List.getElem?_set]
      by_cases h2 : i = j
      · subst h2
        rw [if_pos rfl, if_pos (by omega)]
        simp [h]
      · rw [if_neg h2]
        rw [if_pos (by omega), if_pos (by omega)] at hj
        exact hj
    · rw [if_neg h1, if_neg h1]
/-- A loop that looks at two equal slices. -/
theorem same_gen {β : Type} (G : Nat → List β → List β → Int → Option Bool) (x : List β) (K : Nat)
    (step : ∀ (k i : Nat) (h : i < x.length), K ≤ k → G (k + 1) x x (i : Int) = G k x x ((i + 1 : Nat) : Int))
    (last : ∀ (k : Nat), G (k + 1) x x (x.length : Int) = some true) :
    ∀ (d k i : Nat), x.length - i = d → i ≤ x.length → d + K < k → G k x x (i : Int) = some true := by
  intro d
  induction d with
  | zero =>
    intro k i hd hi hk
    obtain ⟨k, rfl⟩ : ∃ m, k = m + 1 := ⟨k - 1, by omega⟩
    have e : i = x.length := by omega
    subst e
    exact last k
  | succ d ih =>
    intro k i hd hi hk
    obtain ⟨k, rfl⟩ : ∃ m, k = m + 1 := ⟨k - 1, by omega⟩
    rw [step k i (by omega) (by omega)]
    exact ih k (i + 1) (by omega) (by omega) (by omega)
theorem toInt_l0 (l : List Int) (hn : l.length ≤ 35184372088832) : ∀ (d k i : Nat) (x : List Int), l.length - i = d → i ≤ l.length → d < k → x.length = l.length → x.take i = l.take i → laws_toIntS.l0 k l x (i : Int) = some l := by
  intro d
  induction d with
  | zero =>
    intro k i x hd hi hk hx ht
    obtain ⟨k, rfl⟩ : ∃ m, k = m + 1 := ⟨k - 1, by omega⟩
    simp only [laws_toIntS.l0]
    rw [if_neg (by omega)]
    rw [List.take_of_length_le (by omega), List.take_of_length_le (by omega)] at ht
    rw [ht]
  | succ d ih =>
    intro k i x hd hi hk hx ht
    obtain ⟨k, rfl⟩ : ∃ m, k = m + 1 := ⟨k - 1, by omega⟩
    simp only [laws_toIntS.l0]
    rw [if_pos (by omega), if_pos (by omega), if_pos (by omega), w1 (by omega)]
    refine ih k (i + 1) _ (by omega) (by omega) (by omega) (by simpa using hx) ?_
    rw [rd_nat, Int.toNat_natCast]
    exact set_take (by omega) hx ht
theorem toInt_some (l : List Int) (hn : l.length ≤ 35184372088832) {k : Nat} (hk : l.length < k) : laws_toIntS.f k l = some l := by
  unfold laws_toIntS.f
  rw [if_pos (by omega), if_pos (by simpa using hn)]
  exact toInt_l0 l hn l.length k 0 _ (by omega) (by omega) hk (by simp) rfl
theorem eqInt_l0 (a b : List Int) (hab : a.length = b.length) (hn : a.length ≤ 4611686018427387904) : ∀ (d k i : Nat), a.length - i = d → i ≤ a.length → d < k → laws_eqIntS.l0 k a b (i : Int) = some (decide (a.drop i = b.drop i)) := by
  intro d
  induction d with
  | zero =>
    intro k i hd hi hk
    obtain ⟨k, rfl⟩ : ∃ m, k = m + 1 := ⟨k - 1, by omega⟩
    simp only [laws_eqIntS.l0]
    rw [if_neg (by omega), List.drop_eq_nil_of_le (by omega), List.drop_eq_nil_of_le (by omega)]
    simp
  | succ d ih =>
    intro k i hd hi hk
    obtain ⟨k, rfl⟩ : ∃ m, k = m + 1 := ⟨k - 1, by omega⟩
    simp only [laws_eqIntS.l0]
    rw [if_pos (by omega), if_pos (by omega), if_pos (by omega), rd_nat, rd_nat, drop_cons a i (by omega), drop_cons b i (by omega)]
    by_cases h : a.getD i 0 = b.getD i 0
    · rw [if_pos h, w1 (by omega), ih k (i + 1) (by omega) (by omega) (by omega), h]
      simp
    · rw [if_neg h]
      simp only [List.cons.injEq, h, false_and, decide_false]
theorem eqInt_some (a b : List Int) (hn : a.length ≤ 4611686018427387904) {k : Nat} (hk : a.length < k) : laws_eqIntS.f k a b = some (decide (a = b)) := by
  unfold laws_eqIntS.f
  by_cases h : a.length = b.length
  · rw [if_pos (by omega)]
    have := eqInt_l0 a b h hn a.length k 0 (by omega) (by omega) hk
    simpa using this
  · rw [if_neg (by omega)]
    have : a ≠ b := fun e => h (by rw [e])
    simp [this]
theorem eqInt_same (a : List Int) (hn : a.length ≤ 4611686018427387904) {k : Nat} (hk : a.length < k) : laws_eqIntS.f k a a = some true := by
  rw [eqInt_some a a hn hk]; simp
def thingOf (x : S120) : S97 := ⟨x.f0, x.f1, x.f2⟩
theorem rdT_l (xs : List S120) (i : Nat) (h : i < xs.length) : rd_T120 xs (i : Int) = xs[i] := by simp [rd_T120, List.getElem?_eq_getElem h]
theorem rdT_i (xs : List S97) (i : Nat) (h : i < xs.length) : rd_T97 xs (i : Int) = xs[i] := by simp [rd_T97, List.getElem?_eq_getElem h]
theorem toThing_some (l : List S120) (hn : l.length ≤ 5864062014805) {k : Nat} (hk : l.length < k) : laws_toThingS.f k l = some (l.map thingOf) := by
  unfold laws_toThingS.f
  rw [if_pos (by omega), if_pos (by simp; omega)]
  refine copy_gen laws_toThingS.l0 thingOf l 0 ?_ ?_ l.length k 0 _ (by omega) (by omega) (by simp) rfl (by omega)
  · intro k i x3 h hx _
    have c1 : (i : Int) < (l.length : Int) := by omega
    have c2 : (0 : Int) ≤ (i : Int) := by omega
    have c3 : (i : Int) < (x3.length : Int) := by omega
    have e : laws_toThing.f l[i].f0 l[i].f1 l[i].f2 = some (l[i].f0, l[i].f1, l[i].f2) := rfl
    rw [laws_toThingS.l0, if_pos c1, if_pos c2, rdT_l l i h, e, Option.bind_some, if_pos c3, w1 (by omega), Int.toNat_natCast]
    rfl
  · intro k x3
    rw [laws_toThingS.l0, if_neg (Int.lt_irrefl _)]
theorem eqThing1_same (a b c : Int) : laws_eqThing.f a b c a b c = some true := by simp [laws_eqThing.f]
theorem eqThing_same (x : List S97) (hn : x.length ≤ 4611686018427387904) {k : Nat} (hk : x.length < k) : laws_eqThingS.f k x x = some true := by
  unfold laws_eqThingS.f
  rw [if_pos rfl]
  refine same_gen laws_eqThingS.l0 x 0 ?_ ?_ x.length k 0 (by omega) (by omega) (by omega)
  · intro k i h _
    have c1 : (i : Int) < (x.length : Int) := by omega
    have c2 : (0 : Int) ≤ (i : Int) := by omega
    rw [laws_eqThingS.l0, if_pos c1, if_pos c2, if_pos c1, eqThing1_same, Option.bind_some, if_pos rfl, w1 (by omega)]
  · intro k
    rw [laws_eqThingS.l0, if_neg (Int.lt_irrefl _)]
theorem szInt_val (l : List Int) (a : Int) (ha : 0 ≤ a) (ha2 : a ≤ 1048576) (hl : l.length ≤ 281474976710656) : ∃ r, laws_szIntS.f l a = some r ∧ (r < 0 ∨ (0 ≤ r ∧ r ≤ a ∧ l.length ≤ 1048576)) := by
  unfold laws_szIntS.f
  have e : wrap64 (a - (l.length : Int)) = a - (l.length : Int) := by unfold wrap64; omega
  rw [e]
  by_cases h : a - (l.length : Int) < 0
  · rw [if_pos h]; exact ⟨-1, rfl, .inl (by omega)⟩
  · rw [if_neg h]; exact ⟨_, rfl, .inr ⟨by omega, by omega, by omega⟩⟩
theorem szThing_val (l : List S120) (a : Int) (ha : 0 ≤ a) (ha2 : a ≤ 1048576) (hl : l.length ≤ 281474976710656) : ∃ r, laws_szThingS.f l a = some r ∧ (r < 0 ∨ (0 ≤ r ∧ r ≤ a ∧ l.length ≤ 1048576)) := by
  unfold laws_szThingS.f
  have e : wrap64 (a - (l.length : Int)) = a - (l.length : Int) := by unfold wrap64; omega
  rw [e]
  by_cases h : a - (l.length : Int) < 0
  · rw [if_pos h]; exact ⟨-1, rfl, .inl (by omega)⟩
  · rw [if_neg h]; exact ⟨_, rfl, .inr ⟨by omega, by omega, by omega⟩⟩
theorem szNode_val (b0 b1 b2 b3 b4 b5 b6 b7 : Int) (l8 : List Int) (b9 b10 : Int) (l11 : List S120) (l12 : List Int) (a : Int) (ha : 0 ≤ a) (ha2 : a ≤ 1048576) (h8 : l8.length ≤ 281474976710656) (h11 : l11.length ≤ 281474976710656) (h12 : l12.length ≤ 281474976710656) :
    ∃ r, laws_szNode.f b0 b1 b2 b3 b4 b5 b6 b7 l8 b9 b10 l11 l12 a = some r ∧ (r < 0 ∨ (0 ≤ r ∧ r ≤ a ∧ l8.length ≤ 1048576 ∧ l11.length ≤ 1048576 ∧ l12.length ≤ 1048576)) := by
  unfold laws_szNode.f
  obtain ⟨r1, e1, g1⟩ := szInt_val l8 a ha ha2 h8
  rw [e1, Option.bind_some]
  by_cases c1 : r1 < 0
  · rw [if_pos c1]; exact ⟨-1, rfl, .inl (by omega)⟩
  · rw [if_neg c1]
    obtain ⟨r2, e2, g2⟩ := szThing_val l11 r1 (by omega) (by omega) h11
    rw [e2, Option.bind_some]
    by_cases c2 : r2 < 0
    · rw [if_pos c2]; exact ⟨-1, rfl, .inl (by omega)⟩
    · rw [if_neg c2]
      obtain ⟨r3, e3, g3⟩ := szInt_val l12 r2 (by omega) (by omega) h12
      rw [e3, Option.bind_some]
      by_cases c3 : r3 < 0
      · rw [if_pos c3]; exact ⟨-1, rfl, .inl (by omega)⟩
      · rw [if_neg c3]; exact ⟨r3, rfl, .inr (by omega)⟩
/-- The slices of a node are as the machine allows. -/
def NodeSz (x : S38) : Prop := x.f8.length ≤ 281474976710656 ∧ x.f11.length ≤ 281474976710656 ∧ x.f12.length ≤ 281474976710656
def NodeFew (x : S38) : Prop := x.f8.length ≤ 1048576 ∧ x.f11.length ≤ 1048576 ∧ x.f12.length ≤ 1048576
theorem rdN_l (xs : List S38) (i : Nat) (h : i < xs.length) : rd_T38 xs (i : Int) = xs[i] := by simp [rd_T38, List.getElem?_eq_getElem h]
theorem rdN_i (xs : List S43) (i : Nat) (h : i < xs.length) : rd_T43 xs (i : Int) = xs[i] := by simp [rd_T43, List.getElem?_eq_getElem h]
theorem szNodeS_l0 (l : List S38) (hl : l.length ≤ 1048576) (hs : ∀ x ∈ l, NodeSz x) : ∀ (d k i : Nat) (a : Int), l.length - i = d → i ≤ l.length → d < k → 0 ≤ a → a ≤ 1048576 → (∀ j (h : j < l.length), j < i → NodeFew l[j]) →
    ∃ r, laws_szNodeS.l0 k l a (i : Int) = some r ∧ (r < 0 ∨ (0 ≤ r ∧ r ≤ 1048576 ∧ ∀ x ∈ l, NodeFew x)) := by
  intro d
  induction d with
  | zero =>
    intro k i a hd hi hk ha ha2 hf
    obtain ⟨k, rfl⟩ : ∃ m, k = m + 1 := ⟨k - 1, by omega⟩
    have c : ¬ (i : Int) < (l.length : Int) := by omega
    rw [laws_szNodeS.l0, if_neg c]
    refine ⟨a, rfl, .inr ⟨ha, ha2, fun x hx => ?_⟩⟩
    obtain ⟨j, hj, rfl⟩ := List.getElem_of_mem hx
    exact hf j hj (by omega)
  | succ d ih =>
    intro k i a hd hi hk ha ha2 hf
    obtain ⟨k, rfl⟩ : ∃ m, k = m + 1 := ⟨k - 1, by omega⟩
    have c : (i : Int) < (l.length : Int) := by omega
    have c0 : (0 : Int) ≤ (i : Int) := by omega
    have hi' : i < l.length := by omega
    have hz := hs l[i] (List.getElem_mem _)
    obtain ⟨r, e, g⟩ := szNode_val l[i].f0 l[i].f1 l[i].f2 l[i].f3 l[i].f4 l[i].f5 l[i].f6 l[i].f7 l[i].f8 l[i].f9 l[i].f10 l[i].f11 l[i].f12 a ha ha2 hz.1 hz.2.1 hz.2.2
    rw [laws_szNodeS.l0, if_pos c, if_pos c0, rdN_l l i hi', e, Option.bind_some]
    by_cases c1 : r < 0
    · rw [if_pos c1]; exact ⟨-1, rfl, .inl (by omega)⟩
    · rw [if_neg c1, w1 (by omega)]
      refine ih k (i + 1) r (by omega) (by omega) (by omega) (by omega) (by omega) (fun j h hj => ?_)
      by_cases ej : j = i
      · subst ej
        rcases g with g | g
        · exact absurd g c1
        · exact ⟨g.2.2.1, g.2.2.2.1, g.2.2.2.2⟩
      · exact hf j h (by omega)
theorem szNodeS_val (l : List S38) (hl : l.length ≤ 281474976710656) (hs : ∀ x ∈ l, NodeSz x) {k : Nat} (hk : 1048576 < k) :
    ∃ r, laws_szNodeS.f k l 1048576 = some r ∧ (r < 0 ∨ (0 ≤ r ∧ r ≤ 1048576 ∧ l.length ≤ 1048576 ∧ ∀ x ∈ l, NodeFew x)) := by
  unfold laws_szNodeS.f
  have e : wrap64 (1048576 - (l.length : Int)) = 1048576 - (l.length : Int) := by unfold wrap64; omega
  rw [e]
  by_cases h : 1048576 - (l.length : Int) < 0
  · rw [if_pos h]; exact ⟨-1, rfl, .inl (by omega)⟩
  · rw [if_neg h]
    obtain ⟨r, e, g⟩ := szNodeS_l0 l (by omega) hs l.length k 0 (1048576 - (l.length : Int)) (by omega) (by omega) (by omega) (by omega) (by omega) (fun j h hj => by omega)
    refine ⟨r, e, ?_⟩
    rcases g with g | g
    · exact .inl g
    · exact .inr ⟨g.1, g.2.1, by omega, g.2.2⟩
theorem toNode_some (b0 b1 b2 b3 b4 b5 b6 b7 : Int) (l8 : List Int) (b9 b10 : Int) (l11 : List S120) (l12 : List Int) (h8 : l8.length ≤ 1048576) (h11 : l11.length ≤ 1048576) (h12 : l12.length ≤ 1048576) {k : Nat} (hk : 1048576 < k) :
    laws_toNode.f k b0 b1 b2 b3 b4 b5 b6 b7 l8 b9 b10 l11 l12 = some (b0, b1, b2, b3, b4, b5, b6, b7, l8, b9, b10, l11.map thingOf, l12) := by
  unfold laws_toNode.f
  rw [toInt_some l8 (by omega) (by omega), Option.bind_some, toThing_some l11 (by omega) (by omega), Option.bind_some, toInt_some l12 (by omega) (by omega), Option.bind_some]
def nodeOf (x : S38) : S43 := ⟨x.f0, x.f1, x.f2, x.f3, x.f4, x.f5, x.f6, x.f7, x.f8, x.f9, x.f10, x.f11.map thingOf, x.f12⟩
theorem toNodeS_some (l : List S38) (hl : l.length ≤ 1048576) (hf : ∀ x ∈ l, NodeFew x) {k : Nat} (hk : 2097154 < k) : laws_toNodeS.f k l = some (l.map nodeOf) := by
  unfold laws_toNodeS.f
  rw [if_pos (by omega), if_pos (by simp; omega)]
  refine copy_gen laws_toNodeS.l0 nodeOf l 1048577 ?_ ?_ l.length k 0 _ (by omega) (by omega) (by simp) rfl (by omega)
  · intro k i x3 h hx hk
    have c1 : (i : Int) < (l.length : Int) := by omega
    have c2 : (0 : Int) ≤ (i : Int) := by omega
    have c3 : (i : Int) < (x3.length : Int) := by omega
    have g := hf l[i] (List.getElem_mem _)
    rw [laws_toNodeS.l0, if_pos c1, if_pos c2, rdN_l l i h, toNode_some _ _ _ _ _ _ _ _ _ _ _ _ _ g.1 g.2.1 g.2.2 (by omega), Option.bind_some, if_pos c3, w1 (by omega), Int.toNat_natCast]
    rfl
  · intro k x3
    rw [laws_toNodeS.l0, if_neg (Int.lt_irrefl _)]
theorem eqNode1_same (b0 b1 b2 b3 b4 b5 b6 b7 : Int) (l8 : List Int) (b9 b10 : Int) (l11 : List S97) (l12 : List Int) (h8 : l8.length ≤ 1048576) (h11 : l11.length ≤ 1048576) (h12 : l12.length ≤ 1048576) {k : Nat} (hk : 1048576 < k) :
    laws_eqNode.f k b0 b1 b2 b3 b4 b5 b6 b7 l8 b9 b10 l11 l12 b0 b1 b2 b3 b4 b5 b6 b7 l8 b9 b10 l11 l12 = some true := by
  unfold laws_eqNode.f
  rw [if_pos rfl, if_pos rfl, if_pos rfl, if_pos rfl, if_pos rfl, if_pos rfl, if_pos rfl, if_pos rfl, eqInt_same l8 (by omega) (by omega), Option.bind_some, if_pos rfl, if_pos rfl, if_pos rfl, eqThing_same l11 (by omega) (by omega), Option.bind_some, if_pos rfl, eqInt_same l12 (by omega) (by omega), Option.bind_some, if_pos rfl]
theorem eqNodeS_same (x : List S43) (hl : x.length ≤ 1048576) (hf : ∀ y ∈ x, y.f8.length ≤ 1048576 ∧ y.f11.length ≤ 1048576 ∧ y.f12.length ≤ 1048576) {k : Nat} (hk : 2097154 < k) : laws_eqNodeS.f k x x = some true := by
  unfold laws_eqNodeS.f
  rw [if_pos rfl]
  refine same_gen laws_eqNodeS.l0 x 1048577 ?_ ?_ x.length k 0 (by omega) (by omega) (by omega)
  · intro k i h hk
    have c1 : (i : Int) < (x.length : Int) := by omega
    have c2 : (0 : Int) ≤ (i : Int) := by omega
    have g := hf x[i] (List.getElem_mem _)
    rw [laws_eqNodeS.l0, if_pos c1, if_pos c2, if_pos c1, rdN_i x i h, eqNode1_same _ _ _ _ _ _ _ _ _ _ _ _ _ g.1 g.2.1 g.2.2 (by omega), Option.bind_some, if_pos rfl, w1 (by omega)]
  · intro k
    rw [laws_eqNodeS.l0, if_neg (Int.lt_irrefl _)]
theorem nodes_few (l : List S38) (hf : ∀ x ∈ l, NodeFew x) : ∀ y ∈ l.map nodeOf, y.f8.length ≤ 1048576 ∧ y.f11.length ≤ 1048576 ∧ y.f12.length ≤ 1048576 := by
  intro y hy
  obtain ⟨x, hx, rfl⟩ := List.mem_map.mp hy
  have g := hf x hx
  exact ⟨g.1, by simpa [nodeOf] using g.2.1, g.2.2⟩
theorem node_sz (l : List S38) (hl : ∀ x ∈ l, ok38 x) : ∀ x ∈ l, NodeSz x := by
  intro x hx
  have h := hl x hx
  have a := h.2.2.2.2.2.2.2.2.1.2.1
  have b := h.2.2.2.2.2.2.2.2.2.2.2.1.2.1
  have c := h.2.2.2.2.2.2.2.2.2.2.2.2.2.1
  exact ⟨by omega, by omega, by omega⟩
theorem nodes_at (l : List S38) (hl : ∀ x ∈ l, ok38 x) (i : Nat) (h : i < (l.map nodeOf).length) : ok38 (l[i]'(by simpa using h)) := hl _ (List.getElem_mem _)
theorem i64_range {x : Int} (h : (Lit.int .i64 x).wf = true) : -9223372036854775808 ≤ x ∧ x ≤ 9223372036854775807 := bounds_i64 h
theorem in_some (n : Nat) (hn : n ≤ 1048576) (a : Int) : spec_l1In.f a 0 (wrap64 ((n : Int) - 1)) = some (decide (0 ≤ a ∧ a < (n : Int))) := by
  have e : wrap64 ((n : Int) - 1) = (n : Int) - 1 := by unfold wrap64; omega
  unfold spec_l1In.f
  rw [e]
  by_cases h : a ≥ 0
  · rw [if_pos h]
    congr 1
    exact decide_eq_decide.mpr ⟨fun g => ⟨h, by omega⟩, fun g => by omega⟩
  · rw [if_neg h]
    congr 1
    exact (decide_eq_false (fun g => h g.1)).symm
theorem slot_some (xs : List S43) (hn : xs.length ≤ 1048576) (a : Int) : impl_isSlot.f xs a = some (decide (0 ≤ a ∧ a < (xs.length : Int))) := by
  have e : wrap64 ((xs.length : Int) - 1) = (xs.length : Int) - 1 := by unfold wrap64; omega
  unfold impl_isSlot.f impl_within.f
  rw [e]
  by_cases h : a ≥ 0
  · rw [if_pos h, Option.bind_some]
    congr 1
    exact decide_eq_decide.mpr ⟨fun g => ⟨h, by omega⟩, fun g => by omega⟩
  · rw [if_neg h, Option.bind_some]
    congr 1
    exact (decide_eq_false (fun g => h g.1)).symm
theorem place_same (xs : List S43) (hn : xs.length ≤ 1048576) (a b : Int) : ∃ r, spec_PlaceOf.f xs a b = some r ∧ impl_PlaceOf.f xs a b = some r := by
  unfold spec_PlaceOf.f impl_PlaceOf.f
  simp only [in_some _ hn, slot_some xs hn, Option.bind_some]
  by_cases h : 0 ≤ a ∧ a < (xs.length : Int)
  · simp only [decide_eq_true h, h.1, h.2, ↓reduceIte]
    by_cases g0 : (rd_T43 xs a).f0 = 1
    · by_cases g1 : (rd_T43 xs a).f1 = b
      · simp only [if_pos g0, if_pos g1]
        exact ⟨_, rfl, rfl⟩
      · simp only [if_pos g0, if_neg g1]
        exact ⟨_, rfl, rfl⟩
    · simp only [if_neg g0]
      exact ⟨_, rfl, rfl⟩
  · simp only [decide_eq_false h, Bool.false_eq_true, ↓reduceIte]
    exact ⟨_, rfl, rfl⟩
theorem FnExactPlaceOf : laws_FnExactPlaceOf.Pure := by
  intro l a b hm hl2 hok ha hb
  obtain ⟨k, hk⟩ : ∃ k : Nat, 4000000 < k := ⟨_, Nat.lt_succ_self _⟩
  refine ⟨k, ?_⟩
  unfold laws_FnExactPlaceOf.f
  obtain ⟨r, e, g⟩ := szNodeS_val l (by omega) (node_sz l hok) (k := k) (by omega)
  rw [e, Option.bind_some]
  by_cases c : r < 0
  · rw [if_pos c]
  · rw [if_neg c]
    rcases g with g | ⟨_, _, g1, g2⟩
    · exact absurd g c
    · have hl : (l.map nodeOf).length = l.length := by simp
      have eh : laws_toHandle.f a b = some (a, b) := rfl
      obtain ⟨q, e1, e2⟩ := place_same (l.map nodeOf) (by omega) a b
      simp only [toNodeS_some l g1 g2 (show 2097154 < k by omega), eh, e1, e2, Option.bind_some, ↓reduceIte, eqNodeS_same (l.map nodeOf) (by omega) (nodes_few l g2) (show 2097154 < k by omega)]
end Go.Proofs.Ytmfffepjkmgmjaa.Pure
