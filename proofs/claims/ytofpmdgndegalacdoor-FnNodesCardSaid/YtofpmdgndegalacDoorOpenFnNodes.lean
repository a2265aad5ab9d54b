/- Small lemmas that open an argument of a law which is a struct by value: its cells, the slices in it, and how long they can be. No condition. -/
import Derived.WalkKit
import Derived.ProofKit
import Derived.OpenShut
import Derived.Below
import Derived.SizedLaws
import Derived.ChangeSlices
import Derived.Test.YtofpmdgndegalacDoorVFnNodes
namespace Go.Proofs.YtofpmdgndegalacDoorOpen
open Go.ChangeShapes Go.WideShapes Go.ChangeAt Go.RowKit Go.Proofs.YtofpmdgndegalacDoorW.PrintWords
section
variable {H : Type} {enc : TypeId × Value → H} {P : Program} {W : World} {base : Nat} {spare : Nat → Bool} {held : Bool}
def Light (P : Program) (t : TypeId) (d : DataW H) : Prop := (DataW.weights P t d).all (· ≤ reachBytes) = true
theorem light_of_each {ts : List TypeId} {ds : List (DataW H)} {j : Nat} {t : TypeId} {d : DataW H} (h : (DataW.weightsEach P ts ds).all (· ≤ reachBytes) = true) (ht : ts[j]? = some t) (hd : ds[j]? = some d) : Light P t d := by
  unfold Light
  rw [List.all_eq_true] at h ⊢
  intro n hn
  exact h n (DataW.weights_mem_each ht hd n hn)
theorem open_struct {r : Reach} {b0 : Nat} {t : TypeId} {fs : Array Field} {v : Value} {d : DataW H} {p : List MemPlace} (hs : P.underlying t = some (.struct fs)) (hv : Value.okWide P W r b0 t v) (h : DataW.Trod enc P W base spare held t v d p) :
    ∃ l : List Value, v = .agg l.toArray ∧ l.length = P.cellsOf t ∧ ∃ n, DataW.trod enc P W base spare held n t l = some (d, p) := by
  obtain ⟨cs, rfl, hsz⟩ := okWide_struct hs hv
  obtain ⟨fuel, hf⟩ := h
  exact ⟨cs.toList, by simp, by simpa using hsz, fuel, by simpa [Value.cells] using hf⟩
theorem tr_struct {t : TypeId} {fs : Array Field} {cs : List Value} {d : DataW H} {p : List MemPlace} (hs : P.underlying t = some (.struct fs)) (h : ∃ n, DataW.trod enc P W base spare held n t cs = some (d, p)) (hl : Light P t d) :
    ∀ (i : Nat) (f : Field), fs[i]? = some f → ∃ d' p', (∃ n, DataW.trod enc P W base spare held n f.type ((cs.drop f.offset).take (P.cellsOf f.type)) = some (d', p')) ∧ Light P f.type d' := by
  obtain ⟨fuel, hf⟩ := h
  obtain ⟨xs, n, _, hx, _, hlen, hfs⟩ := DataW.trod_struct hs hf
  intro i f hi
  obtain ⟨hi2, hi3⟩ := Array.getElem?_eq_some_iff.1 hi
  obtain ⟨z, hz⟩ : ∃ z, xs[i]? = some z := ⟨xs[i]'(by omega), List.getElem?_eq_getElem _⟩
  have hfi := hfs i f hi
  rw [hz] at hfi
  refine ⟨z.1, z.2, ⟨n, hfi⟩, ?_⟩
  obtain ⟨rfl, _⟩ := Prod.mk.inj hx
  have hl2 : (DataW.weightsEach P (fs.toList.map (·.type)) (xs.map (·.1))).all (· ≤ reachBytes) = true := by
    have := hl
    unfold Light at this
    simpa [DataW.weights, hs] using this
  refine light_of_each hl2 (j := i) ?_ ?_
  · rw [List.getElem?_map, Array.getElem?_toList, hi]; rfl
  · rw [List.getElem?_map, hz]; rfl
theorem at_cell {cs : List Value} {o m : Nat} {c : Value} (h : (cs.drop o).take m = [c]) : cs[o]? = some c := by
  have := congrArg (fun l => l[0]?) h
  simp only [List.getElem?_take, List.getElem?_drop, List.getElem?_cons_zero] at this
  split at this
  · simpa using this
  · cases this
theorem at_sub {cs : List Value} {o m i : Nat} {c : Value} (h : ((cs.drop o).take m)[i]? = some c) : cs[o + i]? = some c := by
  rw [List.getElem?_take] at h
  split at h
  · rwa [List.getElem?_drop] at h
  · cases h
theorem tr_int {t : TypeId} {k : IntKind} {cs : List Value} {o m : Nat} {d : DataW H} {p : List MemPlace} (ht : P.underlying t = some (.int k)) (h : ∃ n, DataW.trod enc P W base spare held n t ((cs.drop o).take m) = some (d, p)) :
    ∃ a : Int, cs[o]? = some (.int k a) ∧ (Lit.int k a).wf = true := by
  obtain ⟨n, hn⟩ := h
  obtain ⟨a, hc, _, hw⟩ := DataW.trod_int ht hn
  exact ⟨a, at_cell hc, hw⟩
theorem tr_ints {t e : TypeId} {k : IntKind} {cs : List Value} {o m B : Nat} {d : DataW H} {p : List MemPlace} (ht : P.underlying t = some (.slice e)) (he : P.underlying e = some (.int k)) (hc : P.cellsOf e = 1) (hB : P.bytesOf e = B)
    (h : ∃ n, DataW.trod enc P W base (fun _ => true) held n t ((cs.drop o).take m) = some (d, p)) (hl : Light P t d) :
    ∃ (a : Option Addr) (cap : Nat) (l : List Int), cs[o]? = some (.slice a l.length cap) ∧ ReadsInt W k a l.length l ∧ l.length ≤ maxLen ∧ (∀ x ∈ l, (Lit.int k x).wf = true) ∧ l.length ≤ cap ∧ l.length * B ≤ 140737488351232 := by
  obtain ⟨n, hn⟩ := h
  rcases open_ints ht he hc hn with ⟨hcs, _⟩ | ⟨x, len, cap, zs, hcs, _, hlc, hm, hz, hx, hcell, hwz⟩
  · exact ⟨none, 0, [], at_cell hcs, ReadsInt.nil _ _, Nat.zero_le _, (fun x hx => by cases hx), Nat.zero_le _, by simp⟩
  · simp only [if_true] at hz
    obtain ⟨l, hll, h1, h2, h3, h4⟩ := ReadsInt.ofRowC (k := k) (w := W) (a := some x) (len := len) (cap := cap) (zs := zs) (.inr ⟨x, rfl, hlc, hm, hz, hcell, hwz⟩)
    refine ⟨some x, cap, l, by rw [← hll]; exact at_cell hcs, h1, h2, h3, h4, ?_⟩
    obtain ⟨rfl, _⟩ := Prod.mk.inj hx
    have z : ((lits (H := H) k (zs.take len)).length + (lits (H := H) k (zs.drop len)).length) * P.bytesOf e ≤ reachBytes := by
      have := hl
      unfold Light at this
      simp only [DataW.weights, ht, List.all_cons, Bool.and_eq_true, decide_eq_true_eq] at this
      exact this.1
    rw [hB] at z
    have hl2 : (lits (H := H) k (zs.take len)).length + (lits (H := H) k (zs.drop len)).length = zs.length := by simp [lits]; omega
    rw [hl2] at z
    exact Nat.le_trans (Nat.mul_le_mul_right _ (by omega)) z
theorem list_choice {α : Type} {Q : Nat → α → Prop} : ∀ (n : Nat), (∀ i, i < n → ∃ x, Q i x) → ∃ l : List α, l.length = n ∧ ∀ i x, l[i]? = some x → Q i x := by
  intro n
  induction n with
  | zero => intro _; exact ⟨[], rfl, fun i x h => by simp at h⟩
  | succ n ih =>
    intro h
    obtain ⟨l, hl, hq⟩ := ih (fun i hi => h i (by omega))
    obtain ⟨x, hx⟩ := h n (by omega)
    refine ⟨l ++ [x], by simp [hl], fun i y hy => ?_⟩
    rcases Nat.lt_or_ge i l.length with hi | hi
    · rw [List.getElem?_append_left hi] at hy; exact hq i y hy
    · have hi2 : i = l.length := by
        have := (List.getElem?_eq_some_iff.1 hy).1
        simp at this; omega
      subst hi2
      have : x = y := by simpa using hy
      subst this; rw [hl]; exact hx
theorem weights_all_mem {e : TypeId} : ∀ (ds : List (DataW H)) (d : DataW H), d ∈ ds → ∀ n ∈ DataW.weights P e d, n ∈ DataW.weightsAll P e ds
  | d0 :: ds, d, hd, n, hn => by
    simp only [DataW.weightsAll, List.mem_append]
    rcases List.mem_cons.1 hd with rfl | hd
    · exact .inl hn
    · exact .inr (weights_all_mem ds d hd n hn)
/-- A slice of elements of whatever kind, read: the elements' own lemma is handed in. -/
theorem tr_slice {α : Type} (dk : Kd α) {Q : α → Prop} {t e : TypeId} {cs : List Value} {o m B : Nat} {d : DataW H} {p : List MemPlace} (ht : P.underlying t = some (.slice e)) (hc : P.cellsOf e = dk.sz) (hB : P.bytesOf e = B)
    (hel : ∀ (cs : List Value) (d' : DataW H) (p' : List MemPlace), (∃ n, DataW.trod enc P W base (fun _ => true) held n e cs = some (d', p')) → cs.length = dk.sz → Light P e d' → ∃ x, dk.K W x cs ∧ Q x)
    (h : ∃ n, DataW.trod enc P W base (fun _ => true) held n t ((cs.drop o).take m) = some (d, p)) (hl : Light P t d) :
    ∃ (a : Option Addr) (cap : Nat) (l : List α), cs[o]? = some (.slice a l.length cap) ∧ Kd.C dk W a l.length l ∧ l.length ≤ maxLen ∧ (∀ x ∈ l, Q x) ∧ l.length ≤ cap ∧ l.length * B ≤ 140737488351232 := by
  obtain ⟨n, hn⟩ := h
  rcases DataW.trod_slice ht hn with ⟨hcs, _⟩ | ⟨ad, len, cap, elems, rest, n', _, hcs, hx, hb, hlc, hm, hlen, he, _, _⟩
  · exact ⟨none, 0, [], at_cell hcs, ⟨rfl, by simp, fun h => absurd h (Nat.lt_irrefl 0)⟩, Nat.zero_le _, (fun x hx => by cases hx), Nat.zero_le _, by simp⟩
  · obtain ⟨rfl, _⟩ := Prod.mk.inj hx
    have hw : (elems.map (·.1)).length * P.bytesOf e ≤ reachBytes ∧ ∀ d' ∈ elems.map (·.1), Light P e d' := by
      have := hl
      unfold Light at this
      simp only [DataW.weights, ht, List.all_cons, Bool.and_eq_true, decide_eq_true_eq] at this
      refine ⟨Nat.le_trans (Nat.mul_le_mul_right _ (Nat.le_add_right _ _)) this.1, fun d' hd' => ?_⟩
      unfold Light
      rw [List.all_eq_true]
      intro k hk
      exact List.all_eq_true.1 this.2 k (List.mem_append_left _ (weights_all_mem _ _ hd' k hk))
    have key : ∀ i, i < len → ∃ x : α, (∃ c : List Value, c.length = dk.sz ∧ dk.K W x c ∧ ∀ j u, c[j]? = some u → W.cell? (ad.add (i * dk.sz + j)) = some u) ∧ Q x := by
      intro i hi
      have h1 := he i hi
      obtain ⟨z, hz⟩ : ∃ z, elems[i]? = some z := ⟨elems[i]'(by omega), List.getElem?_eq_getElem _⟩
      rw [hz] at h1
      obtain ⟨c, hc1, hc2⟩ := Option.bind_eq_some_iff.1 h1
      have hs := World.cells?_some hc1
      rw [hc] at hs
      obtain ⟨hs0, hs1, hs2⟩ := hs
      obtain ⟨x, hx1, hx2⟩ := hel c z.1 z.2 ⟨n', hc2⟩ (by omega) (hw.2 _ (by rw [List.mem_map]; exact ⟨z, List.mem_of_getElem? hz, rfl⟩))
      refine ⟨x, ⟨c, by omega, hx1, fun j u hu => ?_⟩, hx2⟩
      have hj : j < dk.sz := by
        have := (List.getElem?_eq_some_iff.1 hu).1
        omega
      have h3 := hs2 j hj
      rw [hu, Addr.add_add] at h3
      exact h3
    obtain ⟨l, hll, hlq⟩ := list_choice len key
    have hlm : len ≤ maxLen := Nat.le_trans hlc hm
    refine ⟨some ad, cap, l, by rw [hll]; exact at_cell hcs, ⟨rfl, by rw [hll]; simpa [maxLen] using hlm, fun _ => ⟨ad, rfl, fun j x hx => (hlq j x hx).1⟩⟩, by omega, fun x hx => ?_, by omega, ?_⟩
    · obtain ⟨i, hi⟩ := List.mem_iff_getElem?.1 hx
      exact (hlq i x hi).2
    · rw [hll, ← hlen, ← hB]
      have := hw.1
      rw [List.length_map] at this
      exact this
end
theorem list2 {α : Type} {l : List α} (h : l.length = 2) : ∃ c0 c1, l = [c0, c1] := by
  match l, h with
  | [c0, c1], _ => exact ⟨_, _, rfl⟩
theorem list3 {α : Type} {l : List α} (h : l.length = 3) : ∃ c0 c1 c2, l = [c0, c1, c2] := by
  match l, h with
  | [c0, c1, c2], _ => exact ⟨_, _, _, rfl⟩
theorem list4 {α : Type} {l : List α} (h : l.length = 4) : ∃ c0 c1 c2 c3, l = [c0, c1, c2, c3] := by
  match l, h with
  | [c0, c1, c2, c3], _ => exact ⟨_, _, _, _, rfl⟩
theorem list6 {α : Type} {l : List α} (h : l.length = 6) : ∃ c0 c1 c2 c3 c4 c5, l = [c0, c1, c2, c3, c4, c5] := by
  match l, h with
  | [c0, c1, c2, c3, c4, c5], _ => exact ⟨_, _, _, _, _, _, rfl⟩
theorem list13 {α : Type} {l : List α} (h : l.length = 13) : ∃ c0 c1 c2 c3 c4 c5 c6 c7 c8 c9 c10 c11 c12, l = [c0, c1, c2, c3, c4, c5, c6, c7, c8, c9, c10, c11, c12] := by
  match l, h with
  | [c0, c1, c2, c3, c4, c5, c6, c7, c8, c9, c10, c11, c12], _ => exact ⟨_, _, _, _, _, _, _, _, _, _, _, _, _, rfl⟩
end Go.Proofs.YtofpmdgndegalacDoorOpen
