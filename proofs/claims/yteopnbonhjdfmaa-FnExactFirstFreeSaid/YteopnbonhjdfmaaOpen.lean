/- Small lemmas that open an argument of a law which is a struct by value: its cells, the slices in it, and how long they can be. No condition. -/
import Derived.WalkKit
import Derived.ProofKit
import Derived.OpenShut
import Derived.Below
import Derived.SizedLaws
import Derived.ChangeSlices
import Derived.Test.YteopnbonhjdfmaaWWords
namespace Go.Proofs.YteopnbonhjdfmaaOpen
open Go.ChangeShapes Go.WideShapes Go.ChangeAt Go.RowKit Go.Proofs.YteopnbonhjdfmaaW.PrintWords
section
variable {H : Type} {enc : TypeId × Value → H} {P : Program} {W : World} {base : Nat} {spare : Nat → Bool} {held : Bool}
def Light (P : Program) (t : TypeId) (d : DataW H) : Prop := (DataW.weights P t d).all (· ≤ reachBytes) = true
theorem light_of_each {ts : List TypeId} {ds : List (DataW H)} {j : Nat} {t : TypeId} {d : DataW H} (h : (DataW.weightsEach P ts ds).all (· ≤ reachBytes) = true) (ht : ts[j]? = some t) (hd : ds[j]? = some d) : Light P t d := by
  unfold Light
  rw [List.all_eq_true] at h ⊢
  intro n hn
  exact h n (DataW.weights_mem_each ht hd n hn)
theorem open_struct {r : Reach} {b0 : Nat} {t : TypeId} {fs : Array Field} {v : Value} {d : DataW H} {p : List MemPlace} (hs : P.underlying t = some (.struct fs)) (hv : Value.okWide P W r b0 t v) (h : DataW.Trod enc P W base spare held t v d p) :
    ∃ l : List Value, v = .agg l.toArray ∧ l.length = P.cellsOf t ∧ ∃ n, DataW.trod enc P W base spare held n t l = some (d, p) := by
  obtain ⟨cs, rfl, hsz⟩ := okWide_struct hs hv
  obtain ⟨fuel, hf⟩ := h
  exact ⟨cs.toList, by simp, by simpa using hsz, fuel, by simpa [Value.cells] using hf⟩
theorem tr_struct {t : TypeId} {fs : Array Field} {cs : List Value} {d : DataW H} {p : List MemPlace} (hs : P.underlying t = some (.struct fs)) (h : ∃ n, DataW.trod enc P W base spare held n t cs = some (d, p)) (hl : Light P t d) :
    ∀ (i : Nat) (f : Field), fs[i]? = some f → ∃ d' p', (∃ n, DataW.trod enc P W base spare held n f.type ((cs.drop f.offset).take (P.cellsOf f.type)) = some (d', p')) ∧ Light P f.type d' := by
  obtain ⟨fuel, hf⟩ := h
  obtain ⟨xs, n, _, hx, _, hlen, hfs⟩ := DataW.trod_struct hs hf
  intro i f hi
  obtain ⟨hi2, hi3⟩ := Array.getElem?_eq_some_iff.1 hi
  obtain ⟨z, hz⟩ : ∃ z, xs[i]? = some z := ⟨xs[i]'(by omega), List.getElem?_eq_getElem _⟩
  have hfi := hfs i f hi
  rw [hz] at hfi
  refine ⟨z.1, z.2, ⟨n, hfi⟩, ?_⟩
  obtain ⟨rfl, _⟩ := Prod.mk.inj hx
  have hl2 : (DataW.weightsEach P (fs.toList.map (·.type)) (xs.map (·.1))).all (· ≤ reachBytes) = true := by
    have := hl
    unfold Light at this
    simpa [DataW.weights, hs] using this
  refine light_of_each hl2 (j := i) ?_ ?_
  · rw [List.getElem?_map, Array.getElem?_toList, hi]; rfl
  · rw [List.getElem?_map, hz]; rfl
theorem at_cell {cs : List Value} {o m : Nat} {c : Value} (h : (cs.drop o).take m = [c]) : cs[o]? = some c := by
  have := congrArg (fun l => l[0]?) h
  simp only [List.getElem?_take, List.getElem?_drop, List.getElem?_cons_zero] at this
  split at this
  · simpa using this
  · cases this
theorem at_sub {cs : List Value} {o m i : Nat} {c : Value} (h : ((cs.drop o).take m)[i]? = some c) : cs[o + i]? = some c := by
  rw [List.getElem?_take] at h
  split at h
  · rwa [List.getElem?_drop] at h
  · cases h
theorem tr_int {t : TypeId} {k : IntKind} {cs : List Value} {o m : Nat} {d : DataW H} {p : List MemPlace} (ht : P.underlying t = some (.int k)) (h : ∃ n, DataW.trod enc P W base spare held n t ((cs.drop o).take m) = some (d, p)) :
    ∃ a : Int, cs[o]? = some (.int k a) ∧ (Lit.int k a).wf = true := by
  obtain ⟨n, hn⟩ := h
  obtain ⟨a, hc, _, hw⟩ := DataW.trod_int ht hn
  exact ⟨a, at_cell hc, hw⟩
theorem tr_ints {t e : TypeId} {k : IntKind} {cs : List Value} {o m B : Nat} {d : DataW H} {p : List MemPlace} (ht : P.underlying t = some (.slice e)) (he : P.underlying e = some (.int k)) (hc : P.cellsOf e = 1) (hB : P.bytesOf e = B)
    (h : ∃ n, DataW.trod enc P W base (fun _ => true) held n t ((cs.drop o).take m) = some (d, p)) (hl : Light P t d) :
    ∃ (a : Option Addr) (cap : Nat) (l : List Int), cs[o]? = some (.slice a l.length cap) ∧ ReadsInt W k a l.length l ∧ l.length ≤ maxLen ∧ (∀ x ∈ l, (Lit.int k x).wf = true) ∧ l.length ≤ cap ∧ l.length * B ≤ 140737488351232 := by
  obtain ⟨n, hn⟩ := h
  rcases open_ints ht he hc hn with ⟨hcs, _⟩ | ⟨x, len, cap, zs, hcs, _, hlc, hm, hz, hx, hcell, hwz⟩
  · exact ⟨none, 0, [], at_cell hcs, ReadsInt.nil _ _, Nat.zero_le _, (fun x hx => by cases hx), Nat.zero_le _, by simp⟩
  · simp only [if_true] at hz
    obtain ⟨l, hll, h1, h2, h3, h4⟩ := ReadsInt.ofRowC (k := k) (w := W) (a := some x) (len := len) (cap := cap) (zs := zs) (.inr ⟨x, rfl, hlc, hm, hz, hcell, hwz⟩)
    refine ⟨some x, cap, l, by rw [← hll]; exact at_cell hcs, h1, h2, h3, h4, ?_⟩
    obtain ⟨rfl, _⟩ := Prod.mk.inj hx
    have z : ((lits (H := H) k (zs.take len)).length + (lits (H := H) k (zs.drop len)).length) * P.bytesOf e ≤ reachBytes := by
      have := hl
      unfold Light at this
      simp only [DataW.weights, ht, List.all_cons, Bool.and_eq_true, decide_eq_true_eq] at this
      exact this.1
    rw [hB] at z
    have hl2 : (lits (H := H) k (zs.take len)).length + (lits (H := H) k (zs.drop len)).length = zs.length := by simp [lits]; omega
    rw [hl2] at z
    exact Nat.le_trans (Nat.mul_le_mul_right _ (by omega)) z
end
theorem list2 {α : Type} {l : List α} (h : l.length = 2) : ∃ c0 c1, l = [c0, c1] := by
  match l, h with
  | [c0, c1], _ => exact ⟨_, _, rfl⟩
theorem list3 {α : Type} {l : List α} (h : l.length = 3) : ∃ c0 c1 c2, l = [c0, c1, c2] := by
  match l, h with
  | [c0, c1, c2], _ => exact ⟨_, _, _, rfl⟩
theorem list4 {α : Type} {l : List α} (h : l.length = 4) : ∃ c0 c1 c2 c3, l = [c0, c1, c2, c3] := by
  match l, h with
  | [c0, c1, c2, c3], _ => exact ⟨_, _, _, _, rfl⟩
theorem list6 {α : Type} {l : List α} (h : l.length = 6) : ∃ c0 c1 c2 c3 c4 c5, l = [c0, c1, c2, c3, c4, c5] := by
  match l, h with
  | [c0, c1, c2, c3, c4, c5], _ => exact ⟨_, _, _, _, _, _, rfl⟩
theorem list13 {α : Type} {l : List α} (h : l.length = 13) : ∃ c0 c1 c2 c3 c4 c5 c6 c7 c8 c9 c10 c11 c12, l = [c0, c1, c2, c3, c4, c5, c6, c7, c8, c9, c10, c11, c12] := by
  match l, h with
  | [c0, c1, c2, c3, c4, c5, c6, c7, c8, c9, c10, c11, c12], _ => exact ⟨_, _, _, _, _, _, _, _, _, _, _, _, _, rfl⟩
end Go.Proofs.YteopnbonhjdfmaaOpen
