/- What the law FnExactTextOf computes is the answer true, for all arguments within the bounds that the statement's own reading gives. No other condition. -/
import Derived.OpenShut
import Derived.Test.YtjnmefhohkffpaaDoorQFnExactTextOfx5
namespace Go.Proofs.YtjnmefhohkffpaaDoor.Pure
open Go.RowKit Go.Proofs.YtjnmefhohkffpaaDoor.QFnExactTextOf Go.Proofs.YtjnmefhohkffpaaDoorW.PrintWords Go.Proofs.YtjnmefhohkffpaaDoorW.PrintLast
set_option linter.unusedVariables false
set_option linter.unusedSimpArgs false
def ok119 (x : S119) : Prop := (Lit.int .i64 x.f0).wf = true ∧ (Lit.int .i64 x.f1).wf = true ∧ (Lit.int .i64 x.f2).wf = true
def laws_FnExactTextOf.Pure : Prop := ∀ (a0_0 : Int) (a0_1 : Int) (a0_2 : Int) (a0_3 : Int) (a0_4 : Int) (a0_5 : Int) (a0_6 : Int) (a0_7 : Int) (l0_8 : List Int) (a0_9 : Int) (a0_10 : Int) (l0_11 : List S119) (l0_12 : List Int), (Lit.int .i64 a0_0).wf = true → (Lit.int .i64 a0_1).wf = true → (Lit.int .i64 a0_2).wf = true → (Lit.int .i64 a0_3).wf = true → (Lit.int .i64 a0_4).wf = true → (Lit.int .i64 a0_5).wf = true → (Lit.int .i64 a0_6).wf = true → (Lit.int .i64 a0_7).wf = true → l0_8.length ≤ maxLen → l0_8.length * 8 ≤ 140737488351232 → (∀ x ∈ l0_8, (Lit.int .i64 x).wf = true) → (Lit.int .i64 a0_9).wf = true → (Lit.int .i64 a0_10).wf = true → l0_11.length ≤ maxLen → l0_11.length * 24 ≤ 140737488351232 → (∀ x ∈ l0_11, ok119 x) → l0_12.length ≤ maxLen → l0_12.length * 8 ≤ 140737488351232 → (∀ x ∈ l0_12, (Lit.int .i64 x).wf = true) → ∃ k, laws_FnExactTextOf.f k a0_0 a0_1 a0_2 a0_3 a0_4 a0_5 a0_6 a0_7 l0_8 a0_9 a0_10 l0_11 l0_12 = some true
theorem w1 {i : Nat} (h : i < 9223372036854775807) : wrap64 ((i : Int) + 1) = ((i + 1 : Nat) : Int) := by unfold wrap64; omega
theorem rd_nat (xs : List Int) (i : Nat) : rd xs (i : Int) = xs.getD i 0 := by simp [rd]
theorem getD_lt (xs : List Int) (i : Nat) (h : i < xs.length) : xs.getD i 0 = xs[i] := by simp [List.getD, List.getElem?_eq_getElem h]
theorem drop_cons (xs : List Int) (i : Nat) (h : i < xs.length) : xs.drop i = xs.getD i 0 :: xs.drop (i + 1) := by rw [getD_lt xs i h]; exact List.drop_eq_getElem_cons h
theorem set_take {x l : List Int} {i : Nat} (hi : i < l.length) (hx : x.length = l.length) (ht : x.take i = l.take i) : (x.set i (l.getD i 0)).take (i + 1) = l.take (i + 1) := by
  apply List.ext_getElem?
  intro j
  have hj := congrArg (fun z => z[j]?) ht
  simp only [List.getElem?_take] at hj ⊢
  by_cases h1 : j < i + 1
  · rw [if_pos h1, if_pos h1, List.getElem?_set]
    by_cases h2 : i = j
    · subst h2
      rw [if_pos rfl, if_pos (by omega), List.getElem?_eq_getElem hi, getD_lt l i hi]
    · rw [if_neg h2]
      rw [if_pos (by omega), if_pos (by omega)] at hj
      exact hj
  · rw [if_neg h1, if_neg h1]
/-- A loop that copies a slice, each element by a function of its own. -/
theorem copy_gen {α β : Type} (F : Nat → List α → List β → Int → Option (List β)) (c : α → β) (x0 : List α) (K : Nat)
    (step : ∀ (k i : Nat) (x3 : List β) (h : i < x0.length), x3.length = x0.length → K ≤ k → F (k + 1) x0 x3 (i : Int) = F k x0 (x3.set i (c x0[i])) ((i + 1 : Nat) : Int))
    (last : ∀ (k : Nat) (x3 : List β), F (k + 1) x0 x3 (x0.length : Int) = some x3) :
    ∀ (d k i : Nat) (x3 : List β), x0.length - i = d → i ≤ x0.length → x3.length = x0.length → x3.take i = (x0.map c).take i → d + K < k → F k x0 x3 (i : Int) = some (x0.map c) := by
  intro d
  induction d with
  | zero =>
    intro k i x3 hd hi hx ht hk
    obtain ⟨k, rfl⟩ : ∃ m, k = m + 1 := ⟨k - 1, by omega⟩
    have e : i = x0.length := by omega
    subst e
    rw [last]
    rw [List.take_of_length_le (by omega), List.take_of_length_le (by simp)] at ht
    rw [ht]
  | succ d ih =>
    intro k i x3 hd hi hx ht hk
    obtain ⟨k, rfl⟩ : ∃ m, k = m + 1 := ⟨k - 1, by omega⟩
    have h : i < x0.length := by omega
    rw [step k i x3 h hx (by omega)]
    refine ih k (i + 1) _ (by omega) (by omega) (by simpa using hx) ?_ (by omega)
    apply List.ext_getElem?
    intro j
    have hj := congrArg (fun z => z[j]?) ht
    simp only [List.getElem?_take] at hj ⊢
    by_cases h1 : j < i + 1
    · rw [if_pos h1, if_pos h1, List.getElem?_set]
      by_cases h2 : i = j
      · subst h2
        rw [if_pos rfl, if_pos (by omega)]
        simp [h]
      · rw [if_neg h2]
        rw [if_pos (by omega), if_pos (by omega)] at hj
        exact hj
    · rw [if_neg h1, if_neg h1]
/-- A loop that looks at two equal slices. -/
theorem same_gen {β : Type} (G : Nat → List β → List β → Int → Option Bool) (x : List β) (K : Nat)
    (step : ∀ (k i : Nat) (h : i < x.length), K ≤ k → G (k + 1) x x (i : Int) = G k x x ((i + 1 : Nat) : Int))
    (last : ∀ (k : Nat), G (k + 1) x x (x.length : Int) = some true) :
    ∀ (d k i : Nat), x.length - i = d → i ≤ x.length → d + K < k → G k x x (i : Int) = some true := by
  intro d
  induction d with
  | zero =>
    intro k i hd hi hk
    obtain ⟨k, rfl⟩ : ∃ m, k = m + 1 := ⟨k - 1, by omega⟩
    have e : i = x.length := by omega
    subst e
    exact last k
  | succ d ih =>
    intro k i hd hi hk
    obtain ⟨k, rfl⟩ : ∃ m, k = m + 1 := ⟨k - 1, by omega⟩
    rw [step k i (by omega) (by omega)]
    exact ih k (i + 1) (by omega) (by omega) (by omega)
theorem toInt_l0 (l : List Int) (hn : l.length ≤ 35184372088832) : ∀ (d k i : Nat) (x : List Int), l.length - i = d → i ≤ l.length → d < k → x.length = l.length → x.take i = l.take i → laws_toIntS.l0 k l x (i : Int) = some l := by
  intro d
  induction d with
  | zero =>
    intro k i x hd hi hk hx ht
    obtain ⟨k, rfl⟩ : ∃ m, k = m + 1 := ⟨k - 1, by omega⟩
    simp only [laws_toIntS.l0]
    rw [if_neg (by omega)]
    rw [List.take_of_length_le (by omega), List.take_of_length_le (by omega)] at ht
    rw [ht]
  | succ d ih =>
    intro k i x hd hi hk hx ht
    obtain ⟨k, rfl⟩ : ∃ m, k = m + 1 := ⟨k - 1, by omega⟩
    simp only [laws_toIntS.l0]
    rw [if_pos (by omega), if_pos (by omega), if_pos (by omega), w1 (by omega)]
    refine ih k (i + 1) _ (by omega) (by omega) (by omega) (by simpa using hx) ?_
    rw [rd_nat, Int.toNat_natCast]
    exact set_take (by omega) hx ht
theorem toInt_some (l : List Int) (hn : l.length ≤ 35184372088832) {k : Nat} (hk : l.length < k) : laws_toIntS.f k l = some l := by
  unfold laws_toIntS.f
  rw [if_pos (by omega), if_pos (by simpa using hn)]
  exact toInt_l0 l hn l.length k 0 _ (by omega) (by omega) hk (by simp) rfl
theorem eqInt_l0 (a b : List Int) (hab : a.length = b.length) (hn : a.length ≤ 4611686018427387904) : ∀ (d k i : Nat), a.length - i = d → i ≤ a.length → d < k → laws_eqIntS.l0 k a b (i : Int) = some (decide (a.drop i = b.drop i)) := by
  intro d
  induction d with
  | zero =>
    intro k i hd hi hk
    obtain ⟨k, rfl⟩ : ∃ m, k = m + 1 := ⟨k - 1, by omega⟩
    simp only [laws_eqIntS.l0]
    rw [if_neg (by omega), List.drop_eq_nil_of_le (by omega), List.drop_eq_nil_of_le (by omega)]
    simp
  | succ d ih =>
    intro k i hd hi hk
    obtain ⟨k, rfl⟩ : ∃ m, k = m + 1 := ⟨k - 1, by omega⟩
    simp only [laws_eqIntS.l0]
    rw [if_pos (by omega), if_pos (by omega), if_pos (by omega), rd_nat, rd_nat, drop_cons a i (by omega), drop_cons b i (by omega)]
    by_cases h : a.getD i 0 = b.getD i 0
    · rw [if_pos h, w1 (by omega), ih k (i + 1) (by omega) (by omega) (by omega), h]
      simp
    · rw [if_neg h]
      simp only [List.cons.injEq, h, false_and, decide_false]
theorem eqInt_some (a b : List Int) (hn : a.length ≤ 4611686018427387904) {k : Nat} (hk : a.length < k) : laws_eqIntS.f k a b = some (decide (a = b)) := by
  unfold laws_eqIntS.f
  by_cases h : a.length = b.length
  · rw [if_pos (by omega)]
    have := eqInt_l0 a b h hn a.length k 0 (by omega) (by omega) hk
    simpa using this
  · rw [if_neg (by omega)]
    have : a ≠ b := fun e => h (by rw [e])
    simp [this]
theorem eqInt_same (a : List Int) (hn : a.length ≤ 4611686018427387904) {k : Nat} (hk : a.length < k) : laws_eqIntS.f k a a = some true := by
  rw [eqInt_some a a hn hk]; simp
def thingOf (x : S119) : S71 := ⟨x.f0, x.f1, x.f2⟩
theorem rdT_l (xs : List S119) (i : Nat) (h : i < xs.length) : rd_T119 xs (i : Int) = xs[i] := by simp [rd_T119, List.getElem?_eq_getElem h]
theorem rdT_i (xs : List S71) (i : Nat) (h : i < xs.length) : rd_T71 xs (i : Int) = xs[i] := by simp [rd_T71, List.getElem?_eq_getElem h]
theorem toThing_some (l : List S119) (hn : l.length ≤ 5864062014805) {k : Nat} (hk : l.length < k) : laws_toThingS.f k l = some (l.map thingOf) := by
  unfold laws_toThingS.f
  rw [if_pos (by omega), if_pos (by simp; omega)]
  refine copy_gen laws_toThingS.l0 thingOf l 0 ?_ ?_ l.length k 0 _ (by omega) (by omega) (by simp) rfl (by omega)
  · intro k i x3 h hx _
    have c1 : (i : Int) < (l.length : Int) := by omega
    have c2 : (0 : Int) ≤ (i : Int) := by omega
    have c3 : (i : Int) < (x3.length : Int) := by omega
    have e : laws_toThing.f l[i].f0 l[i].f1 l[i].f2 = some (l[i].f0, l[i].f1, l[i].f2) := rfl
    rw [laws_toThingS.l0, if_pos c1, if_pos c2, rdT_l l i h, e, Option.bind_some, if_pos c3, w1 (by omega), Int.toNat_natCast]
    rfl
  · intro k x3
    rw [laws_toThingS.l0, if_neg (Int.lt_irrefl _)]
theorem eqThing1_same (a b c : Int) : laws_eqThing.f a b c a b c = some true := by simp [laws_eqThing.f]
theorem eqThing_same (x : List S71) (hn : x.length ≤ 4611686018427387904) {k : Nat} (hk : x.length < k) : laws_eqThingS.f k x x = some true := by
  unfold laws_eqThingS.f
  rw [if_pos rfl]
  refine same_gen laws_eqThingS.l0 x 0 ?_ ?_ x.length k 0 (by omega) (by omega) (by omega)
  · intro k i h _
    have c1 : (i : Int) < (x.length : Int) := by omega
    have c2 : (0 : Int) ≤ (i : Int) := by omega
    rw [laws_eqThingS.l0, if_pos c1, if_pos c2, if_pos c1, eqThing1_same, Option.bind_some, if_pos rfl, w1 (by omega)]
  · intro k
    rw [laws_eqThingS.l0, if_neg (Int.lt_irrefl _)]
theorem szInt_val (l : List Int) (a : Int) (ha : 0 ≤ a) (ha2 : a ≤ 1048576) (hl : l.length ≤ 281474976710656) : ∃ r, laws_szIntS.f l a = some r ∧ (r < 0 ∨ (0 ≤ r ∧ r ≤ a ∧ l.length ≤ 1048576)) := by
  unfold laws_szIntS.f
  have e : wrap64 (a - (l.length : Int)) = a - (l.length : Int) := by unfold wrap64; omega
  rw [e]
  by_cases h : a - (l.length : Int) < 0
  · rw [if_pos h]; exact ⟨-1, rfl, .inl (by omega)⟩
  · rw [if_neg h]; exact ⟨_, rfl, .inr ⟨by omega, by omega, by omega⟩⟩
theorem szThing_val (l : List S119) (a : Int) (ha : 0 ≤ a) (ha2 : a ≤ 1048576) (hl : l.length ≤ 281474976710656) : ∃ r, laws_szThingS.f l a = some r ∧ (r < 0 ∨ (0 ≤ r ∧ r ≤ a ∧ l.length ≤ 1048576)) := by
  unfold laws_szThingS.f
  have e : wrap64 (a - (l.length : Int)) = a - (l.length : Int) := by unfold wrap64; omega
  rw [e]
  by_cases h : a - (l.length : Int) < 0
  · rw [if_pos h]; exact ⟨-1, rfl, .inl (by omega)⟩
  · rw [if_neg h]; exact ⟨_, rfl, .inr ⟨by omega, by omega, by omega⟩⟩
theorem szNode_val (b0 b1 b2 b3 b4 b5 b6 b7 : Int) (l8 : List Int) (b9 b10 : Int) (l11 : List S119) (l12 : List Int) (a : Int) (ha : 0 ≤ a) (ha2 : a ≤ 1048576) (h8 : l8.length ≤ 281474976710656) (h11 : l11.length ≤ 281474976710656) (h12 : l12.length ≤ 281474976710656) :
    ∃ r, laws_szNode.f b0 b1 b2 b3 b4 b5 b6 b7 l8 b9 b10 l11 l12 a = some r ∧ (r < 0 ∨ (0 ≤ r ∧ r ≤ a ∧ l8.length ≤ 1048576 ∧ l11.length ≤ 1048576 ∧ l12.length ≤ 1048576)) := by
  unfold laws_szNode.f
  obtain ⟨r1, e1, g1⟩ := szInt_val l8 a ha ha2 h8
  rw [e1, Option.bind_some]
  by_cases c1 : r1 < 0
  · rw [if_pos c1]; exact ⟨-1, rfl, .inl (by omega)⟩
  · rw [if_neg c1]
    obtain ⟨r2, e2, g2⟩ := szThing_val l11 r1 (by omega) (by omega) h11
    rw [e2, Option.bind_some]
    by_cases c2 : r2 < 0
    · rw [if_pos c2]; exact ⟨-1, rfl, .inl (by omega)⟩
    · rw [if_neg c2]
      obtain ⟨r3, e3, g3⟩ := szInt_val l12 r2 (by omega) (by omega) h12
      rw [e3, Option.bind_some]
      by_cases c3 : r3 < 0
      · rw [if_pos c3]; exact ⟨-1, rfl, .inl (by omega)⟩
      · rw [if_neg c3]; exact ⟨r3, rfl, .inr (by omega)⟩
theorem toNode_some (b0 b1 b2 b3 b4 b5 b6 b7 : Int) (l8 : List Int) (b9 b10 : Int) (l11 : List S119) (l12 : List Int) (h8 : l8.length ≤ 1048576) (h11 : l11.length ≤ 1048576) (h12 : l12.length ≤ 1048576) {k : Nat} (hk : 1048576 < k) :
    laws_toNode.f k b0 b1 b2 b3 b4 b5 b6 b7 l8 b9 b10 l11 l12 = some (b0, b1, b2, b3, b4, b5, b6, b7, l8, b9, b10, l11.map thingOf, l12) := by
  unfold laws_toNode.f
  rw [toInt_some l8 (by omega) (by omega), Option.bind_some, toThing_some l11 (by omega) (by omega), Option.bind_some, toInt_some l12 (by omega) (by omega), Option.bind_some]
theorem eqNode1_same (b0 b1 b2 b3 b4 b5 b6 b7 : Int) (l8 : List Int) (b9 b10 : Int) (l11 : List S71) (l12 : List Int) (h8 : l8.length ≤ 1048576) (h11 : l11.length ≤ 1048576) (h12 : l12.length ≤ 1048576) {k : Nat} (hk : 1048576 < k) :
    laws_eqNode.f k b0 b1 b2 b3 b4 b5 b6 b7 l8 b9 b10 l11 l12 b0 b1 b2 b3 b4 b5 b6 b7 l8 b9 b10 l11 l12 = some true := by
  unfold laws_eqNode.f
  rw [if_pos rfl, if_pos rfl, if_pos rfl, if_pos rfl, if_pos rfl, if_pos rfl, if_pos rfl, if_pos rfl, eqInt_same l8 (by omega) (by omega), Option.bind_some, if_pos rfl, if_pos rfl, if_pos rfl, eqThing_same l11 (by omega) (by omega), Option.bind_some, if_pos rfl, eqInt_same l12 (by omega) (by omega), Option.bind_some, if_pos rfl]
theorem digW (x : Int) (h0 : -9223372036854775808 ≤ x) (h1 : x ≤ 9223372036854775807) :
    (if (Int.tmod x 10) < 0 then wrap64 (48 + (wrap64 (-(Int.tmod x 10)))) % 256 else wrap64 (48 + (Int.tmod x 10)) % 256) = ((48 + x.natAbs % 10 : Nat) : Int) ∧ (wrap64 (Int.tdiv x 10)).natAbs = x.natAbs / 10 ∧ wrap64 (Int.tdiv x 10) = Int.tdiv x 10 ∧ -9223372036854775808 ≤ Int.tdiv x 10 ∧ Int.tdiv x 10 ≤ 9223372036854775807 := by
  rcases Int.eq_nat_or_neg x with ⟨u, hu | hu⟩
  · subst hu
    have e1 : Int.tmod (u : Int) 10 = ((u % 10 : Nat) : Int) := (Int.ofNat_tmod u 10).symm
    have e2 : Int.tdiv (u : Int) 10 = ((u / 10 : Nat) : Int) := (Int.ofNat_tdiv u 10).symm
    have e3 : (u : Int).natAbs = u := Int.natAbs_natCast u
    have w : wrap64 ((u / 10 : Nat) : Int) = ((u / 10 : Nat) : Int) := by unfold wrap64; omega
    rw [e1, e2, e3, w, if_neg (by omega)]
    refine ⟨?_, ?_, rfl, ?_, ?_⟩ <;> (try unfold wrap64) <;> omega
  · subst hu
    have e1 : Int.tmod (-(u : Int)) 10 = -((u % 10 : Nat) : Int) := by rw [Int.neg_tmod, show Int.tmod (u : Int) 10 = ((u % 10 : Nat) : Int) from (Int.ofNat_tmod u 10).symm]
    have e2 : Int.tdiv (-(u : Int)) 10 = -((u / 10 : Nat) : Int) := by rw [Int.neg_tdiv, show Int.tdiv (u : Int) 10 = ((u / 10 : Nat) : Int) from (Int.ofNat_tdiv u 10).symm]
    have e3 : (-(u : Int)).natAbs = u := by rw [Int.natAbs_neg]; exact Int.natAbs_natCast u
    have w : wrap64 (-((u / 10 : Nat) : Int)) = -((u / 10 : Nat) : Int) := by unfold wrap64; omega
    have w2 : wrap64 (-(-((u % 10 : Nat) : Int))) = ((u % 10 : Nat) : Int) := by unfold wrap64; omega
    rw [e1, e2, e3, w, w2]
    refine ⟨?_, ?_, rfl, ?_, ?_⟩
    · by_cases c : (-((u % 10 : Nat) : Int)) < 0
      · rw [if_pos c]; unfold wrap64; omega
      · rw [if_neg c]; unfold wrap64; omega
    all_goals omega
def digs (u : Nat) : List UInt8 := if u = 0 then [] else Lib.decDigits u
theorem digs_step (u : Nat) (h : u ≠ 0) : digs u = digs (u / 10) ++ [UInt8.ofNat (48 + u % 10)] := by
  unfold digs
  rw [if_neg h, Lib.decDigits]
  by_cases c : u < 10
  · rw [dif_pos c, if_pos (by omega), show u % 10 = u by omega]
    rfl
  · rw [dif_neg c, if_neg (by omega)]
def finN (a0 : Int) (l : List UInt8) : List UInt8 := if a0 < 0 then 45 :: l else l
theorem digs_len : ∀ (j u : Nat), u < 10 ^ j → (digs u).length ≤ j
  | 0, u, h => by
    have : u = 0 := by simp at h; exact h
    subst this
    simp [digs]
  | j + 1, u, h => by
    by_cases c : u = 0
    · subst c
      simp [digs]
    · rw [digs_step u c, List.length_append]
      have := digs_len j (u / 10) (by rw [Nat.pow_succ] at h; omega)
      simp
      omega
theorem numS_l0 (a0 : Int) : ∀ (j k : Nat) (x : Int) (l : List UInt8), x.natAbs < 10 ^ j → j < k → -9223372036854775808 ≤ x → x ≤ 9223372036854775807 → l.length + j ≤ 1000 →
    spec_NumText.l0 k a0 (⟨l.toArray⟩ : ByteArray) x = some (⟨(finN a0 (digs x.natAbs ++ l)).toArray⟩ : ByteArray) := by
  have stop : ∀ (k : Nat) (l : List UInt8), l.length ≤ 1000 → spec_NumText.l0 (k + 1) a0 (⟨l.toArray⟩ : ByteArray) 0 = some (⟨(finN a0 (digs (0 : Int).natAbs ++ l)).toArray⟩ : ByteArray) := by
    intro k l hl
    have hd : digs (0 : Int).natAbs = [] := rfl
    have hs : (⟨l.toArray⟩ : ByteArray).size = l.length := by simp [ByteArray.size]
    rw [hd]
    simp only [spec_NumText.l0, if_true, List.nil_append, finN]
    by_cases c : a0 < 0
    · rw [if_pos c, if_pos (by omega), if_pos c]
      rfl
    · rw [if_neg c, if_neg c]
  intro j
  induction j with
  | zero =>
    intro k x l h hk _ _ hl
    obtain ⟨k, rfl⟩ : ∃ m, k = m + 1 := ⟨k - 1, by omega⟩
    have e : x = 0 := by simp at h; exact h
    subst e
    exact stop k l (by omega)
  | succ j ih =>
    intro k x l h hk h0 h1 hl
    obtain ⟨k, rfl⟩ : ∃ m, k = m + 1 := ⟨k - 1, by omega⟩
    by_cases c : x = 0
    · subst c
      exact stop k l (by omega)
    · obtain ⟨e1, e2, e3, e4, e5⟩ := digW x h0 h1
      have hs : (⟨l.toArray⟩ : ByteArray).size = l.length := by simp [ByteArray.size]
      have hn : x.natAbs ≠ 0 := by omega
      have app : ∀ d : Nat, (strOfNums [(d : Int)]) ++ (⟨l.toArray⟩ : ByteArray) = (⟨(UInt8.ofNat d :: l).toArray⟩ : ByteArray) := by
        intro d
        apply ByteArray.ext
        simp [strOfNums]
      have sz : ∀ d : Nat, (strOfNums [(d : Int)]).size = 1 := by
        intro d
        rw [strOfNums_size]
        rfl
      have R := ih k (Int.tdiv x 10) (UInt8.ofNat (48 + x.natAbs % 10) :: l) (by rw [e3] at e2; rw [e2]; rw [Nat.pow_succ] at h; omega) (by omega) e4 e5 (by simp; omega)
      have G : spec_NumText.l0 k a0 (⟨(UInt8.ofNat (48 + x.natAbs % 10) :: l).toArray⟩ : ByteArray) (Int.tdiv x 10) = some (⟨(finN a0 (digs x.natAbs ++ l)).toArray⟩ : ByteArray) := by
        rw [R]
        rw [e3] at e2
        rw [e2, digs_step x.natAbs hn, List.append_assoc]
        rfl
      simp only [spec_NumText.l0]
      rw [if_neg c]
      by_cases c2 : (Int.tmod x 10) < 0
      · rw [if_pos c2] at e1
        rw [if_pos c2, e1]
        simp only [Option.bind_some]
        rw [if_pos (by rw [sz, hs]; omega), app, e3]
        exact G
      · rw [if_neg c2] at e1
        rw [if_neg c2, e1]
        simp only [Option.bind_some]
        rw [if_pos (by rw [sz, hs]; omega), app, e3]
        exact G
theorem itoa_fin (n : Int) (h : n ≠ 0) : Lib.itoa n = finN n (digs n.natAbs) := by
  unfold Lib.itoa finN digs
  by_cases c : n < 0
  · rw [if_pos c, if_pos c, if_neg (by omega)]
  · rw [if_neg c, if_neg c, if_neg (by omega), show n.toNat = n.natAbs by omega]
theorem numS (n : Int) (h0 : -9223372036854775808 ≤ n) (h1 : n ≤ 9223372036854775807) {k : Nat} (hk : 20 < k) : spec_NumText.f k n = some (⟨(Lib.itoa n).toArray⟩ : ByteArray) := by
  unfold spec_NumText.f
  by_cases c : n = 0
  · rw [if_pos c]
    subst c
    congr 1
    apply ByteArray.ext
    have : Lib.itoa 0 = [48] := by unfold Lib.itoa; rw [if_neg (by decide)]; unfold Lib.decDigits; rfl
    rw [this]
  · rw [if_neg c]
    have := numS_l0 n 20 k n [] (by omega) hk h0 h1 (by decide)
    rw [List.append_nil, ← itoa_fin n c] at this
    exact this
theorem numI (n : Int) (h0 : -9223372036854775808 ≤ n) (h1 : n ≤ 9223372036854775807) : impl_NumText.f n = some (⟨(Lib.itoa n).toArray⟩ : ByteArray) := by
  unfold impl_NumText.f strconv_Itoa.f
  rw [if_pos ⟨h0, h1⟩]
  rfl
theorem wf64 {n : Int} (h : (Lit.int .i64 n).wf = true) : -9223372036854775808 ≤ n ∧ n ≤ 9223372036854775807 := by
  have e1 : IntKind.i64.min = -9223372036854775808 := rfl
  have e2 : IntKind.i64.max = 9223372036854775807 := rfl
  simp [Lit.wf, e1, e2] at h
  exact h
def nt (n : Int) : ByteArray := ⟨(Lib.itoa n).toArray⟩
theorem nt_size (n : Int) (h0 : -9223372036854775808 ≤ n) (h1 : n ≤ 9223372036854775807) : (nt n).size ≤ 21 := by
  have := Lib.itoa_length_le n h0 h1
  show (Lib.itoa n).toArray.size ≤ 21
  simpa using this
def chain (x : ByteArray) (p q r s : Option ByteArray) : Option ByteArray := (if x.size + 1 ≤ 9223372036854775807 then (p.bind fun t1 => (if (x ++ (⟨#[32]⟩ : ByteArray)).size + t1.size ≤ 9223372036854775807 then (if ((x ++ (⟨#[32]⟩ : ByteArray)) ++ t1).size + 1 ≤ 9223372036854775807 then (q.bind fun t2 => (if (((x ++ (⟨#[32]⟩ : ByteArray)) ++ t1) ++ (⟨#[32]⟩ : ByteArray)).size + t2.size ≤ 9223372036854775807 then (if ((((x ++ (⟨#[32]⟩ : ByteArray)) ++ t1) ++ (⟨#[32]⟩ : ByteArray)) ++ t2).size + 1 ≤ 9223372036854775807 then (r.bind fun t3 => (if (((((x ++ (⟨#[32]⟩ : ByteArray)) ++ t1) ++ (⟨#[32]⟩ : ByteArray)) ++ t2) ++ (⟨#[32]⟩ : ByteArray)).size + t3.size ≤ 9223372036854775807 then (if ((((((x ++ (⟨#[32]⟩ : ByteArray)) ++ t1) ++ (⟨#[32]⟩ : ByteArray)) ++ t2) ++ (⟨#[32]⟩ : ByteArray)) ++ t3).size + 1 ≤ 9223372036854775807 then (s.bind fun t4 => (if (((((((x ++ (⟨#[32]⟩ : ByteArray)) ++ t1) ++ (⟨#[32]⟩ : ByteArray)) ++ t2) ++ (⟨#[32]⟩ : ByteArray)) ++ t3) ++ (⟨#[32]⟩ : ByteArray)).size + t4.size ≤ 9223372036854775807 then (some ((((((((x ++ (⟨#[32]⟩ : ByteArray)) ++ t1) ++ (⟨#[32]⟩ : ByteArray)) ++ t2) ++ (⟨#[32]⟩ : ByteArray)) ++ t3) ++ (⟨#[32]⟩ : ByteArray)) ++ t4)) else none)) else none) else none)) else none) else none)) else none) else none)) else none)
theorem space_ : (⟨#[32]⟩ : ByteArray).size = 1 := rfl
theorem chain_some (x p q r s : ByteArray) (hx : x.size ≤ 21) (hp : p.size ≤ 21) (hq : q.size ≤ 21) (hr : r.size ≤ 21) (hs : s.size ≤ 21) : ∃ z, chain x (some p) (some q) (some r) (some s) = some z := by
  refine ⟨((((((((x ++ (⟨#[32]⟩ : ByteArray)) ++ p) ++ (⟨#[32]⟩ : ByteArray)) ++ q) ++ (⟨#[32]⟩ : ByteArray)) ++ r) ++ (⟨#[32]⟩ : ByteArray)) ++ s), ?_⟩
  unfold chain
  simp only [Option.bind_some, ByteArray.size_append, space_]
  rw [if_pos (by omega), if_pos (by omega), if_pos (by omega), if_pos (by omega), if_pos (by omega), if_pos (by omega), if_pos (by omega), if_pos (by omega)]
theorem tailS (k : Nat) (x : ByteArray) (a0 a1 a2 a3 a4 a5 a6 a7 : Int) (l8 : List Int) (a9 a10 : Int) (l11 : List S71) (l12 : List Int) :
    spec_TextOf.j0 (k + 1) x a0 a1 a2 a3 a4 a5 a6 a7 l8 a9 a10 l11 l12 = chain x (spec_NumText.f k a1) (spec_NumText.f k (l8.length : Int)) (spec_NumText.f k (l11.length : Int)) (spec_NumText.f k (l12.length : Int)) := rfl
theorem tailI (k : Nat) (x : ByteArray) (a0 a1 a2 a3 a4 a5 a6 a7 : Int) (l8 : List Int) (a9 a10 : Int) (l11 : List S71) (l12 : List Int) :
    impl_TextOf.j0 (k + 1) x a0 a1 a2 a3 a4 a5 a6 a7 l8 a9 a10 l11 l12 = chain x (impl_NumText.f a1) (impl_NumText.f (l8.length : Int)) (impl_NumText.f (l11.length : Int)) (impl_NumText.f (l12.length : Int)) := rfl
theorem tail_same (k : Nat) (x : ByteArray) (hx : x.size ≤ 21) (a0 a1 a2 a3 a4 a5 a6 a7 : Int) (l8 : List Int) (a9 a10 : Int) (l11 : List S71) (l12 : List Int) (h1 : -9223372036854775808 ≤ a1 ∧ a1 ≤ 9223372036854775807) (h8 : l8.length ≤ 1048576) (h11 : l11.length ≤ 1048576) (h12 : l12.length ≤ 1048576) (hk : 20 < k) :
    ∃ z, spec_TextOf.j0 (k + 1) x a0 a1 a2 a3 a4 a5 a6 a7 l8 a9 a10 l11 l12 = some z ∧ impl_TextOf.j0 (k + 1) x a0 a1 a2 a3 a4 a5 a6 a7 l8 a9 a10 l11 l12 = some z := by
  rw [tailS, tailI, numS a1 h1.1 h1.2 hk, numI a1 h1.1 h1.2, numS (l8.length : Int) (by omega) (by omega) hk, numI (l8.length : Int) (by omega) (by omega), numS (l11.length : Int) (by omega) (by omega) hk, numI (l11.length : Int) (by omega) (by omega), numS (l12.length : Int) (by omega) (by omega) hk, numI (l12.length : Int) (by omega) (by omega)]
  obtain ⟨z, hz⟩ := chain_some x (nt a1) (nt (l8.length : Int)) (nt (l11.length : Int)) (nt (l12.length : Int)) hx (nt_size _ h1.1 h1.2) (nt_size _ (by omega) (by omega)) (nt_size _ (by omega) (by omega)) (nt_size _ (by omega) (by omega))
  exact ⟨z, hz, hz⟩
theorem text_same (a0 a1 a2 a3 a4 a5 a6 a7 : Int) (l8 : List Int) (a9 a10 : Int) (l11 : List S71) (l12 : List Int) (h1 : -9223372036854775808 ≤ a1 ∧ a1 ≤ 9223372036854775807) (h8 : l8.length ≤ 1048576) (h11 : l11.length ≤ 1048576) (h12 : l12.length ≤ 1048576) {k : Nat} (hk : 21 < k) :
    ∃ z, spec_TextOf.f k a0 a1 a2 a3 a4 a5 a6 a7 l8 a9 a10 l11 l12 = some z ∧ impl_TextOf.f k a0 a1 a2 a3 a4 a5 a6 a7 l8 a9 a10 l11 l12 = some z := by
  obtain ⟨k, rfl⟩ : ∃ m, k = m + 1 := ⟨k - 1, by omega⟩
  unfold spec_TextOf.f impl_TextOf.f
  have ew : impl_within.f a0 0 3 = spec_l1In.f a0 0 3 := rfl
  rw [ew]
  unfold spec_l1In.f
  by_cases c0 : a0 ≥ 0
  · have c0' : 0 ≤ a0 := c0
    rw [if_pos c0]
    simp only [Option.bind_some]
    by_cases c1 : a0 ≤ 3
    · rw [decide_eq_true c1]
      simp only [↓reduceIte, Option.bind_some, List.length_cons, List.length_nil]
      have c2 : a0 < ((0 + 1 + 1 + 1 + 1 : Nat) : Int) := by omega
      rw [if_pos c0', if_pos c0', if_pos c2, if_pos c2]
      refine tail_same k _ ?_ a0 a1 a2 a3 a4 a5 a6 a7 l8 a9 a10 l11 l12 h1 h8 h11 h12 (by omega)
      have hs : a0 = 0 ∨ a0 = 1 ∨ a0 = 2 ∨ a0 = 3 := by omega
      rcases hs with rfl | rfl | rfl | rfl <;> decide
    · rw [decide_eq_false c1]
      simp only [Bool.false_eq_true, ↓reduceIte]
      exact tail_same k _ (by decide) a0 a1 a2 a3 a4 a5 a6 a7 l8 a9 a10 l11 l12 h1 h8 h11 h12 (by omega)
  · rw [if_neg c0]
    simp only [Option.bind_some, Bool.false_eq_true, ↓reduceIte]
    exact tail_same k _ (by decide) a0 a1 a2 a3 a4 a5 a6 a7 l8 a9 a10 l11 l12 h1 h8 h11 h12 (by omega)
theorem FnExactTextOf : laws_FnExactTextOf.Pure := by
  intro a0 a1 a2 a3 a4 a5 a6 a7 l8 a9 a10 l11 l12 wa0 wa1 _ _ _ _ _ _ hm8 h8 _ _ _ hm11 h11 _ hm12 h12 _
  obtain ⟨k, hk⟩ : ∃ k : Nat, 4000000 < k := ⟨_, Nat.lt_succ_self _⟩
  refine ⟨k, ?_⟩
  unfold laws_FnExactTextOf.f
  obtain ⟨r, e, g⟩ := szNode_val a0 a1 a2 a3 a4 a5 a6 a7 l8 a9 a10 l11 l12 1048576 (by omega) (by omega) (by omega) (by omega) (by omega)
  rw [e, Option.bind_some]
  by_cases c : r < 0
  · rw [if_pos c]
  · rw [if_neg c]
    rcases g with g | ⟨_, _, g8, g11, g12⟩
    · exact absurd g c
    · have hl : (l11.map thingOf).length = l11.length := by simp
      obtain ⟨q, e1, e2⟩ := text_same a0 a1 a2 a3 a4 a5 a6 a7 l8 a9 a10 (l11.map thingOf) l12 (wf64 wa1) g8 (by omega) g12 (k := k) (by omega)
      simp only [toNode_some a0 a1 a2 a3 a4 a5 a6 a7 l8 a9 a10 l11 l12 g8 g11 g12 (show 1048576 < k by omega), Option.bind_some, e1, e2, ↓reduceIte, eqNode1_same a0 a1 a2 a3 a4 a5 a6 a7 l8 a9 a10 (l11.map thingOf) l12 g8 (show (l11.map thingOf).length ≤ 1048576 by omega) g12 (show 1048576 < k by omega)]
end Go.Proofs.YtjnmefhohkffpaaDoor.Pure
