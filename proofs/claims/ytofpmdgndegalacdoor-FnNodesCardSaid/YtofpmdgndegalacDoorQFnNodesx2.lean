/- What the functions that the law FnNodes reaches compute, as plain functions, and that the code computes just that (by a program of this session's; the library's functions by hand). No condition. -/
import Derived.Test.YtofpmdgndegalacDoorQFnNodesx0
namespace Go.Proofs.YtofpmdgndegalacDoor.QFnNodes
open Go.RowKit Go.Proofs.YtofpmdgndegalacDoorW.PrintWords Go.Proofs.YtofpmdgndegalacDoorW.PrintLast Go.Proofs.YtofpmdgndegalacDoorW.PrintMore
attribute [local go_sem] max2_int min2_int max_two min_two max_three min_three max_four min_four   -- for this text's walks alone
set_option linter.unusedVariables false
set_option linter.unusedSimpArgs false

/-! ### laws_big: function 4 -/
def laws_big.f (l0 : List Int) : Option (Bool) := some (decide ((l0.length : Int) > 1048576))
set_option maxHeartbeats 8000000 in
set_option maxRecDepth 100000 in
theorem laws_big.calls (A0 : Option Addr) (c0 : Nat) (l0 : List Int) (r : Bool) (w : World) (hr0 : Kd.C (Kd.int .u8) w A0 l0.length l0) (hc0 : l0.length ≤ c0) (h : laws_big.f l0 = some r) :
  Calls Tryd.prog 4 #[.slice A0 l0.length c0] w fun e w' => e = .returned (.bool r) ∧ Drawn0 w w' := by
 have bX := Aside0.mk hr0
 have d0 := Aside0.mk hc0
 clear hr0 hc0
 have H : (some (decide ((l0.length : Int) > 1048576))) = some r := h
 clear h
 obtain rfl := Option.some.inj H
 go_enter Tryd.func4, Tryd.ntmps4
 go_wp2
 go_ret
 exact ⟨q121t, q116t⟩

/-- A state of type 69 at block g of W; what its slices lead to came in by w0. -/
def IsS69 (w0 W : World) (g : Nat) (f0 : List Int) (f1 : Int) (f2 : Int) : Prop := ∃ A0 c0, W.heap[g]? = some (.cells #[.slice A0 f0.length c0, f1, f2] 69 (0, 0)) ∧ w0.heap.size ≤ g ∧ Kd.C (Kd.int .u8) w0 A0 f0.length f0
theorem IsS69.grown {w0 W : World} {g : Nat} {f0 : List Int} {f1 : Int} {f2 : Int} {W1 : World} {row : Option Nat} (h : IsS69 w0 W g f0 f1 f2) (hw : W.grownBy W1 row) (hne : some g ≠ row) : IsS69 w0 W1 g f0 f1 f2 := by
 obtain ⟨A0, c0, hb, hg, hr0⟩ := h
 exact ⟨A0, c0, blk_grown hb hw hne, hg, hr0⟩
theorem IsS69.own_neN {w0 W : World} {g : Nat} {f0 : List Int} {f1 : Int} {f2 : Int} {α : Type} {d : Kd α} {e : Nat} {base : Nat} {ok : Nat → Prop} {v : Value} {xs : List α} (h : IsS69 w0 W g f0 f1 f2) (ho : Kd.N d e W base ok v xs) (ht : e ≠ 69) : some g ≠ v.ownBlock := by
 obtain ⟨A0, c0, hb, hg, hr0⟩ := h
 exact Kd.N_ne ho hb ht
theorem IsS69.fresh {w0 W : World} {g : Nat} {f0 : List Int} {f1 : Int} {f2 : Int} (h : IsS69 w0 W g f0 f1 f2) : ∀ k, W.heap.size ≤ k → k ≠ g := by
 obtain ⟨A0, c0, hb, hg, hr0⟩ := h
 exact Kd.freshB hb
theorem IsS69.kept {w0 W : World} {g : Nat} {f0 : List Int} {f1 : Int} {f2 : Int} {W1 : World} {S : Nat → Prop} (h : IsS69 w0 W g f0 f1 f2) (hk : Kept W W1 S) (hne : ¬ S g) : IsS69 w0 W1 g f0 f1 f2 := by
 obtain ⟨A0, c0, hb, hg, hr0⟩ := h
 exact ⟨A0, c0, blk_kept hb hk hne, hg, hr0⟩
theorem IsS69.below {w0 W : World} {g : Nat} {f0 : List Int} {f1 : Int} {f2 : Int} {W1 : World} (h : IsS69 w0 W g f0 f1 f2) (hw : Below W.heap.size W W1) : IsS69 w0 W1 g f0 f1 f2 := h.grown (grown_of_below hw none) q126t
theorem IsS69.alloc {w0 W : World} {g : Nat} {f0 : List Int} {f1 : Int} {f2 : Int} (h : IsS69 w0 W g f0 f1 f2) (o : Obj) : IsS69 w0 (W.alloc o) g f0 f1 f2 := h.below (below_alloc (Below.refl _ _) o)
theorem IsS69.drewN {w0 W : World} {g : Nat} {f0 : List Int} {f1 : Int} {f2 : Int} (h : IsS69 w0 W g f0 f1 f2) (m : Nat) : IsS69 w0 (W.drewN m) g f0 f1 f2 := h
theorem IsS69.drew {w0 W : World} {g : Nat} {f0 : List Int} {f1 : Int} {f2 : Int} (h : IsS69 w0 W g f0 f1 f2) : IsS69 w0 W.drew g f0 f1 f2 := h
theorem IsS69.at_ {w0 W : World} {g : Nat} {f0 : List Int} {f1 : Int} {f2 : Int} {w' : World} {m : Nat} (hq : W.drewN m = w') (h : IsS69 w0 W g f0 f1 f2) : IsS69 w0 w' g f0 f1 f2 := by subst hq; exact IsS69.drewN h m
theorem IsS69.apart {w0 W : World} {g : Nat} {f0 : List Int} {f1 : Int} {f2 : Int} {α : Type} {d : Kd α} {e : Nat} {base : Nat} {ok : Nat → Prop} {v : Value} {xs : List α} (h : IsS69 w0 W g f0 f1 f2) (ho : d.R e W base ok v xs) (ht : ∀ q, q ∈ e :: d.E → q ≠ 69) : d.R e W base (fun k => ok k ∧ k ≠ g) v xs := by
 obtain ⟨A0, c0, hb, hg, hr0⟩ := h
 exact Kd.R_types ho hb ht
theorem IsS69.own_ne {w0 W : World} {g : Nat} {f0 : List Int} {f1 : Int} {f2 : Int} {α : Type} {d : Kd α} {e : Nat} {base : Nat} {ok : Nat → Prop} {v : Value} {xs : List α} (h : IsS69 w0 W g f0 f1 f2) (ho : d.R e W base ok v xs) (ht : e ≠ 69) : some g ≠ v.ownBlock := by
 obtain ⟨A0, c0, hb, hg, hr0⟩ := h
 exact Kd.R_ne ho hb ht
theorem IsS69.apartQ {w0 W : World} {g : Nat} {f0 : List Int} {f1 : Int} {f2 : Int} {α : Type} {d : Kd α} {e : Nat} {base : Nat} {ok : Nat → Prop} {v : Value} {xs : List α} (h : IsS69 w0 W g f0 f1 f2) (ho : d.Q e W base ok v xs) (ht : ∀ q, q ∈ e :: d.E → q ≠ 69) : d.Q e W base (fun k => ok k ∧ k ≠ g) v xs := by
 obtain ⟨A0, c0, hb, hg, hr0⟩ := h
 exact Kd.Q_types ho hb ht
theorem IsS69.own_neQ {w0 W : World} {g : Nat} {f0 : List Int} {f1 : Int} {f2 : Int} {α : Type} {d : Kd α} {e : Nat} {base : Nat} {ok : Nat → Prop} {v : Value} {xs : List α} (h : IsS69 w0 W g f0 f1 f2) (ho : d.Q e W base ok v xs) (ht : e ≠ 69) : some g ≠ v.ownBlock := by
 obtain ⟨A0, c0, hb, hg, hr0⟩ := h
 exact Kd.Q_ne ho hb ht
theorem IsS69.apartS {w0 W : World} {g : Nat} {f0 : List Int} {f1 : Int} {f2 : Int} {α : Type} {d : Kd α} {e : Nat} {base : Nat} {ok : Nat → Prop} {v : Value} {xs : List α} (h : IsS69 w0 W g f0 f1 f2) (ho : d.S e W base ok v xs) (ht : ∀ q, q ∈ e :: d.E → q ≠ 69) : d.S e W base (fun k => ok k ∧ k ≠ g) v xs := by
 obtain ⟨A0, c0, hb, hg, hr0⟩ := h
 exact Kd.S_types ho hb ht
theorem IsS69.own_neS {w0 W : World} {g : Nat} {f0 : List Int} {f1 : Int} {f2 : Int} {α : Type} {d : Kd α} {e : Nat} {base : Nat} {ok : Nat → Prop} {v : Value} {xs : List α} (h : IsS69 w0 W g f0 f1 f2) (ho : d.S e W base ok v xs) (ht : e ≠ 69) : some g ≠ v.ownBlock := by
 obtain ⟨A0, c0, hb, hg, hr0⟩ := h
 exact Kd.S_ne ho hb ht
theorem IsS69.lt {w0 W : World} {g : Nat} {f0 : List Int} {f1 : Int} {f2 : Int} (h : IsS69 w0 W g f0 f1 f2) : g < W.heap.size := by
 obtain ⟨A0, c0, hb, hg, hr0⟩ := h
 exact blk_lt hb
theorem IsS69.ge {w0 W : World} {g : Nat} {f0 : List Int} {f1 : Int} {f2 : Int} (h : IsS69 w0 W g f0 f1 f2) : w0.heap.size ≤ g := by
 obtain ⟨A0, c0, hb, hg, hr0⟩ := h
 exact hg
theorem IsS69.ne_blk {w0 W : World} {g : Nat} {f0 : List Int} {f1 : Int} {f2 : Int} {a : Nat} {cs : Array Value} {t : TypeId} {fr : Nat × Nat} (h : IsS69 w0 W g f0 f1 f2) (hb2 : W.heap[a]? = some (.cells cs t fr)) (ht : t ≠ 69) : g ≠ a := by
 obtain ⟨A0, c0, hb, hg, hr0⟩ := h
 rintro rfl
 rw [hb] at hb2
 injection hb2 with hb2
 injection hb2 with _ ht2
 exact ht ht2.symm
theorem IsS69.far {w0 W : World} {g : Nat} {f0 : List Int} {f1 : Int} {f2 : Int} {p : Addr} (h : IsS69 w0 W g f0 f1 f2) (hne : g ≠ p.block) (u : Value) : IsS69 w0 (W.setCell p u) g f0 f1 f2 := by
 obtain ⟨A0, c0, hb, hg, hr0⟩ := h
 exact ⟨A0, c0, blk_far hb hne u, hg, hr0⟩
theorem cellS69_0 {W : World} {g : Nat} {A0 : Option Addr} {c0 : Nat} {f0 : List Int} {f1 : Int} {f2 : Int} (h : W.heap[g]? = some (.cells #[.slice A0 f0.length c0, f1, f2] 69 (0, 0))) : W.cell? ⟨g, 0, none⟩ = some (.slice A0 f0.length c0) := (blk_cell h 0).trans rfl
theorem cellS69_1 {W : World} {g : Nat} {A0 : Option Addr} {c0 : Nat} {f0 : List Int} {f1 : Int} {f2 : Int} (h : W.heap[g]? = some (.cells #[.slice A0 f0.length c0, f1, f2] 69 (0, 0))) : W.cell? ⟨g, 1, none⟩ = some (.int .i64 f1) := (blk_cell h 1).trans rfl
theorem IsS69.set_1 {w0 W : World} {g : Nat} {f0 : List Int} {f1 : Int} {f2 : Int} (h : IsS69 w0 W g f0 f1 f2) (x : Int) : IsS69 w0 (W.setCell ⟨g, 1, none⟩ (.int .i64 x)) g f0 x f2 := by
 obtain ⟨A0, c0, hb, hg, hr0⟩ := h
 exact ⟨A0, c0, (by simpa using blk_set hb 1 (.int .i64 x)), hg, hr0⟩
theorem cellS69_2 {W : World} {g : Nat} {A0 : Option Addr} {c0 : Nat} {f0 : List Int} {f1 : Int} {f2 : Int} (h : W.heap[g]? = some (.cells #[.slice A0 f0.length c0, f1, f2] 69 (0, 0))) : W.cell? ⟨g, 2, none⟩ = some (.int .i64 f2) := (blk_cell h 2).trans rfl
theorem IsS69.set_2 {w0 W : World} {g : Nat} {f0 : List Int} {f1 : Int} {f2 : Int} (h : IsS69 w0 W g f0 f1 f2) (x : Int) : IsS69 w0 (W.setCell ⟨g, 2, none⟩ (.int .i64 x)) g f0 f1 x := by
 obtain ⟨A0, c0, hb, hg, hr0⟩ := h
 exact ⟨A0, c0, (by simpa using blk_set hb 2 (.int .i64 x)), hg, hr0⟩
theorem IsS69.new (w0 W : World) (A0 : Option Addr) (c0 : Nat) (f0 : List Int) (f1 : Int) (f2 : Int) (hB : Below w0.heap.size w0 W) (hr0 : Kd.C (Kd.int .u8) w0 A0 f0.length f0) : IsS69 w0 (W.alloc (.cells #[.slice A0 f0.length c0, f1, f2] 69)) W.heap.size f0 f1 f2 := ⟨A0, c0, by simpa using heap_alloc_new W _, hB.size, hr0⟩

/-! ### spec_l1New: function 22 -/
def spec_l1New.l0 : Nat → List Int → Int → Int → Option (List Int × Int × Int)
 | 0, _, _, _ => none
 | k + 1, x0, x3, x4 => if x4 < (x0.length : Int) then (if x4 < 4000 then (if 0 ≤ x4 then (spec_l1New.l0 k x0 (Go.bits .and .i64 (wrap64 ((wrap64 ((wrap64 (x3 * 137)) + (wrap64 (rd x0 x4)))) + 11)) 1073741823) (wrap64 (x4 + 1))) else (none)) else (some (x0, 0, x3))) else (some (x0, 0, x3))
def spec_l1New.f (k : Nat) (l0 : List Int) : Option (List Int × Int × Int) := spec_l1New.l0 k l0 (wrap64 (161416 + (l0.length : Int))) 0
set_option maxHeartbeats 8000000 in
set_option maxRecDepth 100000 in
theorem spec_l1New.calls (k : Nat) (A0 : Option Addr) (c0 : Nat) (l0 : List Int) (r1 : List Int) (r2 : Int) (r3 : Int) (w0 w : World) (hB : Below w0.heap.size w0 w) (hr0 : Kd.C (Kd.int .u8) w0 A0 l0.length l0) (hc0 : l0.length ≤ c0) (h : spec_l1New.f k l0 = some (r1, r2, r3)) :
  Calls Tryd.prog 22 #[.slice A0 l0.length c0] w fun e w' => ∃ g_ : Nat, e = .returned (.pointer (some ⟨g_, 0, none⟩)) ∧ IsS69 w0 w' g_ r1 r2 r3 ∧ Below w0.heap.size w0 w' ∧ Below w.heap.size w w' := by
 have hu69 := Tryd.underlying69
 have bX := Aside0.mk hr0
 have d0 := Aside0.mk hc0
 clear hr0 hc0
 have HBW := am (Below.refl w.heap.size w)
 have HW0 := Aside0.mk hB.size
 have HB := Aside0.mk hB
 clear hB
 have H : (spec_l1New.l0 k l0 (wrap64 (161416 + (l0.length : Int))) 0) = some (r1, r2, r3) := h
 clear h
 have H' := Aside0.mk H
 clear H
 go_enter Tryd.func22, Tryd.ntmps22
 go_wp2
 go_loopg [3, 4] k (fun kq v3 v4 w' => ∃ (d7 : Int) (cj : Int), v3 = .int .i64 d7 ∧ v4 = .int .i64 cj ∧ Aside0 (spec_l1New.l0 kq l0 d7 cj = some (r1, r2, r3)) ∧ Aside0 (kq ≤ k) ∧ Aside0 (Below w0.heap.size w0 w') ∧ Aside0 (Below w.heap.size w w'))
 case atStart => exact ⟨(wrap64 (161416 + (l0.length : Int))), (0), q121t, q121t, H', ⟨Nat.le_refl _⟩, ⟨q68t⟩, ⟨q67t⟩⟩
 case round =>
  clear H'
  obtain ⟨d7, cj, rfl, rfl, HA, HK1, HB, HBW⟩ := hrel
  cases gk with
  | zero => exact absurd HA.out (by simp [spec_l1New.l0])
  | succ k1 =>
   have H := HA.out
   clear HA
   simp only [spec_l1New.l0] at H
   by_cases c2 : cj < (l0.length : Int)
   ·rw [if_pos c2] at H
    have ni : decide (cj < (l0.length : Int)) = true := decide_eq_true c2
    clear c2
    by_cases c3 : cj < 4000
    ·rw [if_pos c3] at H
     have d8 : decide (cj < 4000) = true := decide_eq_true c3
     clear c3
     by_cases c4 : 0 ≤ cj
     rotate_left
     ·rw [if_neg c4] at H
      exact absurd H q126t
     rw [if_pos c4] at H
     have en : decide (0 ≤ cj) = true := decide_eq_true c4
     clear c4
     have H' := Aside0.mk H
     clear H
     have p101 : 0 ≤ (cj : Int) := of_decide_eq_true q118t
     have q101 : cj < (l0.length : Int) := of_decide_eq_true q118t
     obtain ⟨OA, e101, AN⟩ := Kd.at_int bX.out cj p101 q101
     cases e101
     replace AN := pw_cell_below HB.out AN
     replace p101 := eq_true p101
     replace q101 := eq_true q101
     go_wp2
     go_roundg k1
     case measure => have := HK1.out; omega
     case rel => exact ⟨(Go.bits .and .i64 (wrap64 ((wrap64 ((wrap64 (d7 * 137)) + (wrap64 (rd l0 cj)))) + 11)) 1073741823), (wrap64 (cj + 1)), q121t, q121t, H', ⟨q124t⟩, ⟨q68t⟩, ⟨q67t⟩⟩
    rw [if_neg c3] at H
    have d8 : decide (cj < 4000) = false := decide_eq_false c3
    clear c3
    simp only [Option.some.injEq, Prod.mk.injEq] at H
    obtain ⟨rfl, rfl, rfl⟩ := H
    go_wp2_with (first | ((with_reducible refine gate_dst (N := 31) rfl ?_); refine box_ev 31 #[.slice A0 l0.length c0, .int .i64 0, d7] 69 ?_; intro tA hg w5 hbox hb; replace HB := am (below_step q68t hb); have F5 := am (hbox); have F6 := am ((q62t : w.heap.size ≤ tA)); have F7 := am ((Nat.le_trans HW0.out (q62t : w.heap.size ≤ tA) : w0.heap.size ≤ tA)); replace HBW := am (below_step HBW.out hb); clear hb hbox hg))
    go_ret
    exact ⟨_, rfl, (show IsS69 w0 _ tA l0 0 d7 from ⟨_, _, qbk F5, F7.out, bX.out⟩), q47t, (by repeat (first | (with_reducible first | exact HBW.out | apply below_alloc | apply pw_below_drewN | apply below_drew1 | refine below_set ?_ F6.out) | exact HBW.out))⟩
   rw [if_neg c2] at H
   have ni : decide (cj < (l0.length : Int)) = false := decide_eq_false c2
   clear c2
   simp only [Option.some.injEq, Prod.mk.injEq] at H
   obtain ⟨rfl, rfl, rfl⟩ := H
   go_wp2_with (first | ((with_reducible refine gate_dst (N := 31) rfl ?_); refine box_ev 31 #[.slice A0 l0.length c0, .int .i64 0, d7] 69 ?_; intro tB hg w6 hbox hb; replace HB := am (below_step q68t hb); have F8 := am (hbox); have F9 := am ((q62t : w.heap.size ≤ tB)); have Ga := am ((Nat.le_trans HW0.out (q62t : w.heap.size ≤ tB) : w0.heap.size ≤ tB)); replace HBW := am (below_step HBW.out hb); clear hb hbox hg))
   go_ret
   exact ⟨_, rfl, (show IsS69 w0 _ tB l0 0 d7 from ⟨_, _, qbk F8, Ga.out, bX.out⟩), q47t, (by repeat (first | (with_reducible first | exact HBW.out | apply below_alloc | apply pw_below_drewN | apply below_drew1 | refine below_set ?_ F9.out) | exact HBW.out))⟩

/-! ### spec_l1Byte: function 52 -/
def spec_l1Byte.f (ah : List Int) (a5 : Int) (a7 : Int) : Option (Int × Int × Int) := if a5 < (ah.length : Int) then (if 0 ≤ a5 then (some (Go.bits .and .i64 (wrap64 ((Go.bits .and .i64 (Go.bits .xor .i64 ((wrap64 ((wrap64 (a7 * 6364136223846793005)) + 1442695040888963407)) / 8589934592) ((wrap64 ((wrap64 (a7 * 6364136223846793005)) + 1442695040888963407)) / 140737488355328)) 255) + (wrap64 (rd ah a5)))) 255, wrap64 (a5 + 1), wrap64 ((wrap64 (a7 * 6364136223846793005)) + 1442695040888963407))) else (none)) else (some (Go.bits .and .i64 (Go.bits .xor .i64 ((wrap64 ((wrap64 (a7 * 6364136223846793005)) + 1442695040888963407)) / 8589934592) ((wrap64 ((wrap64 (a7 * 6364136223846793005)) + 1442695040888963407)) / 140737488355328)) 255, a5, wrap64 ((wrap64 (a7 * 6364136223846793005)) + 1442695040888963407)))
set_option maxHeartbeats 8000000 in
set_option maxRecDepth 100000 in
theorem spec_l1Byte.calls (g : Nat) (ah : List Int) (a5 : Int) (a7 : Int) (r1 : Int) (r2 : Int) (r3 : Int) (w0 w : World) (hI : IsS69 w0 w g ah a5 a7) (hB : Below w0.heap.size w0 w) (h : spec_l1Byte.f ah a5 a7 = some (r1, r2, r3)) :
  Calls Tryd.prog 52 #[.pointer (some ⟨g, 0, none⟩)] w fun e w' => e = .returned (.int .i64 r1) ∧ IsS69 w0 w' g ah r2 r3 ∧ Below w0.heap.size w0 w' ∧ KeepBut w w' g none := by
 have HI0 := Aside0.mk hI
 have HK := am (KeepBut.refl w g none)
 have HL := Aside0.mk hB.size
 clear hI
 have HW0 := Aside0.mk hB.size
 have HB := Aside0.mk hB
 clear hB
 have H : (if a5 < (ah.length : Int) then (if 0 ≤ a5 then (some (Go.bits .and .i64 (wrap64 ((Go.bits .and .i64 (Go.bits .xor .i64 ((wrap64 ((wrap64 (a7 * 6364136223846793005)) + 1442695040888963407)) / 8589934592) ((wrap64 ((wrap64 (a7 * 6364136223846793005)) + 1442695040888963407)) / 140737488355328)) 255) + (wrap64 (rd ah a5)))) 255, wrap64 (a5 + 1), wrap64 ((wrap64 (a7 * 6364136223846793005)) + 1442695040888963407))) else (none)) else (some (Go.bits .and .i64 (Go.bits .xor .i64 ((wrap64 ((wrap64 (a7 * 6364136223846793005)) + 1442695040888963407)) / 8589934592) ((wrap64 ((wrap64 (a7 * 6364136223846793005)) + 1442695040888963407)) / 140737488355328)) 255, a5, wrap64 ((wrap64 (a7 * 6364136223846793005)) + 1442695040888963407)))) = some (r1, r2, r3) := h
 clear h
 by_cases c2 : a5 < (ah.length : Int)
 ·rw [if_pos c2] at H
  have ni : decide (a5 < (ah.length : Int)) = true := decide_eq_true c2
  clear c2
  by_cases c3 : 0 ≤ a5
  rotate_left
  ·rw [if_neg c3] at H
   exact absurd H q126t
  rw [if_pos c3] at H
  have d8 : decide (0 ≤ a5) = true := decide_eq_true c3
  clear c3
  simp only [Option.some.injEq, Prod.mk.injEq] at H
  obtain ⟨rfl, rfl, rfl⟩ := H
  obtain ⟨ASz4_0, cSz4_0, HGz4, hgz4, HSz4_0⟩ := HI0.out
  have OB := cellS69_0 HGz4
  have OC := cellS69_1 HGz4
  have OD := cellS69_2 HGz4
  have OE := blk_frozen HGz4 1
  have OF := blk_frozen HGz4 2
  clear HGz4 hgz4
  have p104 : 0 ≤ (a5 : Int) := of_decide_eq_true q118t
  have q104 : a5 < (ah.length : Int) := of_decide_eq_true q118t
  obtain ⟨Gb, e104, pv⟩ := Kd.at_int HSz4_0 a5 p104 q104
  cases e104
  have hn104_0 : Gb.block ≠ g := Nat.ne_of_lt (Nat.lt_of_lt_of_le (by have := World.block_lt_of_cell? _ _ pv; first | rwa [add_block] at this | exact this) (IsS69.ge HI0.out))
  replace pv := pw_cell_below HB.out pv
  replace pv := (cell_far (p := ⟨g, 2, none⟩) (by first | (rw [add_block]; exact hn104_0) | (show (Addr.add _ _).block ≠ _; rw [add_block]; exact hn104_0) | exact hn104_0) (.int .i64 (wrap64 ((wrap64 (a7 * 6364136223846793005)) + 1442695040888963407)))).trans pv
  (try have hy104_0 := fun (n_ : Nat) => (show (((w.drewN n_).setCell ⟨g, 2, none⟩ (.int .i64 (wrap64 ((wrap64 (a7 * 6364136223846793005)) + 1442695040888963407))))).cell? _ = some _ from pv))
  clear hn104_0
  replace p104 := eq_true p104
  replace q104 := eq_true q104
  go_enter Tryd.func52, Tryd.ntmps52
  go_wp2
  repeat (go_quiet (fail); try go_wp2)
  go_ret
  exact ⟨q114t, q61t, q60t, q64t⟩
 rw [if_neg c2] at H
 have ni : decide (a5 < (ah.length : Int)) = false := decide_eq_false c2
 clear c2
 simp only [Option.some.injEq, Prod.mk.injEq] at H
 obtain ⟨rfl, rfl, rfl⟩ := H
 obtain ⟨ASz5_0, cSz5_0, HGz5, hgz5, HSz5_0⟩ := HI0.out
 have OG := cellS69_0 HGz5
 have OH := cellS69_1 HGz5
 have OI := cellS69_2 HGz5
 have OJ := blk_frozen HGz5 1
 have OK := blk_frozen HGz5 2
 clear HGz5 hgz5
 go_enter Tryd.func52, Tryd.ntmps52
 go_wp2
 repeat (go_quiet (fail); try go_wp2)
 go_ret
 exact ⟨q114t, q61t, q60t, q64t⟩

/-! ### spec_l1Below: function 26 -/
def spec_l1Below.f (ah : List Int) (a5 : Int) (a7 : Int) (a1 : Int) : Option (Int × Int × Int) := if a1 ≤ 0 then (some (0, a5, a7)) else (if a1 ≤ 256 then ((spec_l1Byte.f ah a5 a7).bind fun ow => (if a1 = 0 then (none) else (some (Int.tmod ow.1 a1, ow.2.1, ow.2.2)))) else ((spec_l1Byte.f ah a5 a7).bind fun ox => ((spec_l1Byte.f ah ox.2.1 ox.2.2).bind fun oy => ((spec_l1Byte.f ah oy.2.1 oy.2.2).bind fun oz => (if a1 = 0 then (none) else (some (Int.tmod (wrap64 ((wrap64 ((wrap64 (ox.1 * 65536)) + (wrap64 (oy.1 * 256)))) + oz.1)) a1, oz.2.1, oz.2.2)))))))
set_option maxHeartbeats 8000000 in
set_option maxRecDepth 100000 in
theorem spec_l1Below.calls (g : Nat) (ah : List Int) (a5 : Int) (a7 : Int) (a1 : Int) (r1 : Int) (r2 : Int) (r3 : Int) (w0 w : World) (hI : IsS69 w0 w g ah a5 a7) (hB : Below w0.heap.size w0 w) (h : spec_l1Below.f ah a5 a7 a1 = some (r1, r2, r3)) :
  Calls Tryd.prog 26 #[.pointer (some ⟨g, 0, none⟩), a1] w fun e w' => e = .returned (.int .i64 r1) ∧ IsS69 w0 w' g ah r2 r3 ∧ Below w0.heap.size w0 w' ∧ KeepBut w w' g none := by
 have HI0 := Aside0.mk hI
 have HK := am (KeepBut.refl w g none)
 have HL := Aside0.mk hB.size
 clear hI
 have HW0 := Aside0.mk hB.size
 have HB := Aside0.mk hB
 clear hB
 have H : (if a1 ≤ 0 then (some (0, a5, a7)) else (if a1 ≤ 256 then ((spec_l1Byte.f ah a5 a7).bind fun ow => (if a1 = 0 then (none) else (some (Int.tmod ow.1 a1, ow.2.1, ow.2.2)))) else ((spec_l1Byte.f ah a5 a7).bind fun ox => ((spec_l1Byte.f ah ox.2.1 ox.2.2).bind fun oy => ((spec_l1Byte.f ah oy.2.1 oy.2.2).bind fun oz => (if a1 = 0 then (none) else (some (Int.tmod (wrap64 ((wrap64 ((wrap64 (ox.1 * 65536)) + (wrap64 (oy.1 * 256)))) + oz.1)) a1, oz.2.1, oz.2.2)))))))) = some (r1, r2, r3) := h
 clear h
 by_cases c3 : a1 ≤ 0
 ·rw [if_pos c3] at H
  have d8 : decide (a1 ≤ 0) = true := decide_eq_true c3
  clear c3
  simp only [Option.some.injEq, Prod.mk.injEq] at H
  obtain ⟨rfl, rfl, rfl⟩ := H
  go_enter Tryd.func26, Tryd.ntmps26
  go_wp2
  go_ret
  exact ⟨q114t, q61t, q60t, q64t⟩
 rw [if_neg c3] at H
 have d8 : decide (a1 ≤ 0) = false := decide_eq_false c3
 clear c3
 by_cases c4 : a1 ≤ 256
 ·rw [if_pos c4] at H
  have en : decide (a1 ≤ 256) = true := decide_eq_true c4
  clear c4
  obtain ⟨⟨Gc, Gd, Ge⟩, A5, H⟩ := bnd H
  try dsimp only at H
  by_cases c6 : a1 = 0
  ·rw [if_pos c6] at H
   exact absurd H q126t
  rw [if_neg c6] at H
  have d9 : (a1 == 0) = false := beq_eq_false_iff_ne.mpr c6
  have gg : (a1 != 0) = true := bne_iff_ne.mpr c6
  simp only [Option.some.injEq, Prod.mk.injEq] at H
  obtain ⟨rfl, rfl, rfl⟩ := H
  go_enter Tryd.func26, Tryd.ntmps26
  go_wp2_with (first | ((with_reducible refine gate_callee (f := 52) rfl ?_); refine goesL_ (some 13) rfl rfl Tryd.func52 (by kernel_rfl) rfl #[.pointer (some ⟨g, 0, none⟩)] rfl q66t ?_; (with_reducible refine (spec_l1Byte.calls g ah a5 a7 Gc Gd Ge w0 _ ?side1 ?side2 A5.out).mono ?_); (case side1 => repeat (first | (with_reducible first | exact HI0.out | apply IsS69.alloc | apply IsS69.drewN | apply IsS69.drew | apply IsS69.set_1 | apply IsS69.set_2) | exact HI0.out)); (case side2 => repeat (first | (with_reducible first | exact HB.out | apply below_alloc | apply pw_below_drewN | apply below_drew1 | refine below_set ?_ (IsS69.ge HI0.out)) | exact HB.out)); rintro e w7 ⟨rfl, hi, hb, hk⟩; refine ⟨_, rfl, ?_⟩; replace HK := am (KeepBut.trans q64t hk (.inl rfl)); replace HB := am (hb); replace HI0 := am (hi); (try clear hb); (try clear hb2); (try clear hk); (try clear hi)))
  go_ret
  exact ⟨q114t, q61t, q60t, q64t⟩
 rw [if_neg c4] at H
 have en : decide (a1 ≤ 256) = false := decide_eq_false c4
 clear c4
 obtain ⟨⟨Gf, AO, AP⟩, A8, H⟩ := bnd H
 try dsimp only at H
 obtain ⟨⟨Gg, AQ, AR⟩, A9, H⟩ := bnd H
 try dsimp only at H
 obtain ⟨⟨Gh, Gi, Gj⟩, jO, H⟩ := bnd H
 try dsimp only at H
 by_cases c11 : a1 = 0
 ·rw [if_pos c11] at H
  exact absurd H q126t
 rw [if_neg c11] at H
 have kB : (a1 == 0) = false := beq_eq_false_iff_ne.mpr c11
 have oA : (a1 != 0) = true := bne_iff_ne.mpr c11
 simp only [Option.some.injEq, Prod.mk.injEq] at H
 obtain ⟨rfl, rfl, rfl⟩ := H
 go_enter Tryd.func26, Tryd.ntmps26
 go_wp2_with (first | ((with_reducible refine gate_callee (f := 52) rfl ?_); refine goesL_ (some 17) rfl rfl Tryd.func52 (by kernel_rfl) rfl #[.pointer (some ⟨g, 0, none⟩)] rfl q66t ?_; (with_reducible refine (spec_l1Byte.calls g ah a5 a7 Gf AO AP w0 _ ?side1 ?side2 A8.out).mono ?_); (case side1 => repeat (first | (with_reducible first | exact HI0.out | apply IsS69.alloc | apply IsS69.drewN | apply IsS69.drew | apply IsS69.set_1 | apply IsS69.set_2) | exact HI0.out)); (case side2 => repeat (first | (with_reducible first | exact HB.out | apply below_alloc | apply pw_below_drewN | apply below_drew1 | refine below_set ?_ (IsS69.ge HI0.out)) | exact HB.out)); rintro e w12 ⟨rfl, hi, hb, hk⟩; refine ⟨_, rfl, ?_⟩; replace HK := am (KeepBut.trans q64t hk (.inl rfl)); replace HB := am (hb); replace HI0 := am (hi); (try clear hb); (try clear hb2); (try clear hk); (try clear hi)) | ((with_reducible refine gate_callee (f := 52) rfl ?_); refine goesL_ (some 19) rfl rfl Tryd.func52 (by kernel_rfl) rfl #[.pointer (some ⟨g, 0, none⟩)] rfl q66t ?_; (with_reducible refine (spec_l1Byte.calls g ah AO AP Gg AQ AR w0 _ ?side1 ?side2 A9.out).mono ?_); (case side1 => repeat (first | (with_reducible first | exact HI0.out | apply IsS69.alloc | apply IsS69.drewN | apply IsS69.drew | apply IsS69.set_1 | apply IsS69.set_2) | exact HI0.out)); (case side2 => repeat (first | (with_reducible first | exact HB.out | apply below_alloc | apply pw_below_drewN | apply below_drew1 | refine below_set ?_ (IsS69.ge HI0.out)) | exact HB.out)); rintro e w13 ⟨rfl, hi, hb, hk⟩; refine ⟨_, rfl, ?_⟩; replace HK := am (KeepBut.trans q64t hk (.inl rfl)); replace HB := am (hb); replace HI0 := am (hi); (try clear hb); (try clear hb2); (try clear hk); (try clear hi)) | ((with_reducible refine gate_callee (f := 52) rfl ?_); refine goesL_ (some 21) rfl rfl Tryd.func52 (by kernel_rfl) rfl #[.pointer (some ⟨g, 0, none⟩)] rfl q66t ?_; (with_reducible refine (spec_l1Byte.calls g ah AQ AR Gh Gi Gj w0 _ ?side1 ?side2 jO.out).mono ?_); (case side1 => repeat (first | (with_reducible first | exact HI0.out | apply IsS69.alloc | apply IsS69.drewN | apply IsS69.drew | apply IsS69.set_1 | apply IsS69.set_2) | exact HI0.out)); (case side2 => repeat (first | (with_reducible first | exact HB.out | apply below_alloc | apply pw_below_drewN | apply below_drew1 | refine below_set ?_ (IsS69.ge HI0.out)) | exact HB.out)); rintro e w14 ⟨rfl, hi, hb, hk⟩; refine ⟨_, rfl, ?_⟩; replace HK := am (KeepBut.trans q64t hk (.inl rfl)); replace HB := am (hb); replace HI0 := am (hi); (try clear hb); (try clear hb2); (try clear hk); (try clear hi)))
 go_ret
 exact ⟨q114t, q61t, q60t, q64t⟩

/-! ### spec_l1Int: function 50 -/
def spec_l1Int.f (ah : List Int) (a5 : Int) (a7 : Int) (l1 : List Int) : Option (Int × Int × Int) := (spec_l1Below.f ah a5 a7 (l1.length : Int)).bind fun jP => (if 0 ≤ jP.1 then (if jP.1 < (l1.length : Int) then (some (rd l1 jP.1, jP.2.1, jP.2.2)) else (none)) else (none))
set_option maxHeartbeats 8000000 in
set_option maxRecDepth 100000 in
theorem spec_l1Int.calls (g : Nat) (ah : List Int) (a5 : Int) (a7 : Int) (A1 : Option Addr) (c1 : Nat) (l1 : List Int) (r1 : Int) (r2 : Int) (r3 : Int) (w0 w : World) (hI : IsS69 w0 w g ah a5 a7) (hB : Below w0.heap.size w0 w) (hr1 : Kd.C (Kd.int .i64) w A1 l1.length l1) (hc1 : l1.length ≤ c1) (hf1 : ∀ ad, A1 = some ad → 0 < l1.length → ad.block ≠ g) (h : spec_l1Int.f ah a5 a7 l1 = some (r1, r2, r3)) :
  Calls Tryd.prog 50 #[.pointer (some ⟨g, 0, none⟩), .slice A1 l1.length c1] w fun e w' => e = .returned (.int .i64 r1) ∧ IsS69 w0 w' g ah r2 r3 ∧ Below w0.heap.size w0 w' ∧ KeepBut w w' g none := by
 have gh := Aside0.mk hr1
 have pw := Aside0.mk hc1
 clear hr1 hc1
 have HI0 := Aside0.mk hI
 have HK := am (KeepBut.refl w g none)
 have HL := Aside0.mk hB.size
 clear hI
 have HW0 := Aside0.mk hB.size
 have HB := Aside0.mk hB
 clear hB
 have H : ((spec_l1Below.f ah a5 a7 (l1.length : Int)).bind fun jP => (if 0 ≤ jP.1 then (if jP.1 < (l1.length : Int) then (some (rd l1 jP.1, jP.2.1, jP.2.2)) else (none)) else (none))) = some (r1, r2, r3) := h
 clear h
 obtain ⟨⟨nj, Gk, Gl⟩, A3, H⟩ := bnd H
 try dsimp only at H
 by_cases c4 : 0 ≤ nj
 rotate_left
 ·rw [if_neg c4] at H
  exact absurd H q126t
 rw [if_pos c4] at H
 have en : decide (0 ≤ nj) = true := decide_eq_true c4
 clear c4
 by_cases c5 : nj < (l1.length : Int)
 rotate_left
 ·rw [if_neg c5] at H
  exact absurd H q126t
 rw [if_pos c5] at H
 have gE : decide (nj < (l1.length : Int)) = true := decide_eq_true c5
 clear c5
 simp only [Option.some.injEq, Prod.mk.injEq] at H
 obtain ⟨rfl, rfl, rfl⟩ := H
 go_enter Tryd.func50, Tryd.ntmps50
 go_wp2_with (first | ((with_reducible refine gate_callee (f := 26) rfl ?_); refine goesL_ (some 9) rfl rfl Tryd.func26 (by kernel_rfl) rfl #[.pointer (some ⟨g, 0, none⟩), .int .i64 (l1.length : Int)] rfl q66t ?_; (with_reducible refine (spec_l1Below.calls g ah a5 a7 (l1.length : Int) nj Gk Gl w0 _ ?side1 ?side2 A3.out).mono ?_); (case side1 => repeat (first | (with_reducible first | exact HI0.out | apply IsS69.alloc | apply IsS69.drewN | apply IsS69.drew | apply IsS69.set_1 | apply IsS69.set_2) | exact HI0.out)); (case side2 => repeat (first | (with_reducible first | exact HB.out | apply below_alloc | apply pw_below_drewN | apply below_drew1 | refine below_set ?_ (IsS69.ge HI0.out)) | exact HB.out)); rintro e w6 ⟨rfl, hi, hb, hk⟩; refine ⟨_, rfl, ?_⟩; replace HK := am (KeepBut.trans q64t hk (.inl rfl)); replace HB := am (hb); replace HI0 := am (hi); (try clear hb); (try clear hb2); (try clear hk); (try clear hi); have p120 : 0 ≤ (nj : Int) := of_decide_eq_true q118t; have q120 : nj < (l1.length : Int) := of_decide_eq_true q118t; obtain ⟨Gm, e120, AS⟩ := Kd.at_int gh.out nj p120 q120; cases e120; replace AS := keep_cell HK.out AS (by first | (rw [add_block]; exact hf1 _ rfl (by omega)) | exact hf1 _ rfl (by omega) | exact hf1 Gm rfl (by omega)); replace p120 := eq_true p120; replace q120 := eq_true q120))
 go_ret
 exact ⟨q114t, q61t, q60t, q64t⟩

/-! ### spec_l3Conf: function 23 -/
def spec_l3Conf.f (ah : List Int) (a5 : Int) (a7 : Int) : Option (Int × Int × Int × Int × Int × Int × Int × Int) := (spec_l1Below.f ah a5 a7 11).bind fun oB => ((spec_l1Int.f ah oB.2.1 oB.2.2 (([8, 8, 9, 12, 16] : List Int))).bind fun jQ => ((spec_l1Below.f ah jQ.2.1 jQ.2.2 7).bind fun jR => ((spec_l1Below.f ah jR.2.1 jR.2.2 6).bind fun jS => ((spec_l1Int.f ah jS.2.1 jS.2.2 (([1, 3, 4, 8, 16] : List Int))).bind fun gF => ((spec_l1Below.f ah gF.2.1 gF.2.2 4).bind fun gG => (some (wrap64 (2 + oB.1), jQ.1, wrap64 (2 + jR.1), wrap64 (1 + jS.1), gF.1, wrap64 (1 + gG.1), gG.2.1, gG.2.2)))))))
set_option maxHeartbeats 8000000 in
set_option maxRecDepth 100000 in
theorem spec_l3Conf.calls (g : Nat) (ah : List Int) (a5 : Int) (a7 : Int) (r1 : Int) (r2 : Int) (r3 : Int) (r4 : Int) (r5 : Int) (r6 : Int) (r7 : Int) (r8 : Int) (w0 w : World) (hI : IsS69 w0 w g ah a5 a7) (hB : Below w0.heap.size w0 w) (h : spec_l3Conf.f ah a5 a7 = some (r1, r2, r3, r4, r5, r6, r7, r8)) :
  Calls Tryd.prog 23 #[.pointer (some ⟨g, 0, none⟩)] w fun e w' => e = .returned (.agg #[r1, r2, r3, r4, r5, r6]) ∧ IsS69 w0 w' g ah r7 r8 ∧ Below w0.heap.size w0 w' ∧ KeepBut w w' g none := by
 have hu25 := Tryd.underlying25
 have HI0 := Aside0.mk hI
 have HK := am (KeepBut.refl w g none)
 have HL := Aside0.mk hB.size
 clear hI
 have HW0 := Aside0.mk hB.size
 have HB := Aside0.mk hB
 clear hB
 have H : ((spec_l1Below.f ah a5 a7 11).bind fun oB => ((spec_l1Int.f ah oB.2.1 oB.2.2 (([8, 8, 9, 12, 16] : List Int))).bind fun jQ => ((spec_l1Below.f ah jQ.2.1 jQ.2.2 7).bind fun jR => ((spec_l1Below.f ah jR.2.1 jR.2.2 6).bind fun jS => ((spec_l1Int.f ah jS.2.1 jS.2.2 (([1, 3, 4, 8, 16] : List Int))).bind fun gF => ((spec_l1Below.f ah gF.2.1 gF.2.2 4).bind fun gG => (some (wrap64 (2 + oB.1), jQ.1, wrap64 (2 + jR.1), wrap64 (1 + jS.1), gF.1, wrap64 (1 + gG.1), gG.2.1, gG.2.2)))))))) = some (r1, r2, r3, r4, r5, r6, r7, r8) := h
 clear h
 obtain ⟨⟨tC, tD, tE⟩, A2, H⟩ := bnd H
 try dsimp only at H
 obtain ⟨vJ, hy125⟩ : ∃ y_ : List Int, y_ = (([8, 8, 9, 12, 16] : List Int)) := ⟨_, rfl⟩
 replace H : ((spec_l1Int.f ah tD tE vJ).bind fun jQ => ((spec_l1Below.f ah jQ.2.1 jQ.2.2 7).bind fun jR => ((spec_l1Below.f ah jR.2.1 jR.2.2 6).bind fun jS => ((spec_l1Int.f ah jS.2.1 jS.2.2 (([1, 3, 4, 8, 16] : List Int))).bind fun gF => ((spec_l1Below.f ah gF.2.1 gF.2.2 4).bind fun gG => (some (wrap64 (2 + tC), jQ.1, wrap64 (2 + jR.1), wrap64 (1 + jS.1), gF.1, wrap64 (1 + gG.1), gG.2.1, gG.2.2))))))) = some (r1, r2, r3, r4, r5, r6, r7, r8) := by first | (rw [hy125]; with_reducible exact H) | (have H2_ := (Option.bind_some _ _).symm.trans H; rw [hy125]; with_reducible exact H2_) | (have H2_ := (Option.bind_some _ _).symm.trans H; with_reducible exact H2_) | with_reducible exact H | (rw [hy125]; exact H) | exact H
 have AT := Aside0.mk hy125
 clear hy125
 obtain ⟨⟨vK, vL, vM⟩, A3, H⟩ := bnd H
 try dsimp only at H
 obtain ⟨⟨vN, vO, vP⟩, A4, H⟩ := bnd H
 try dsimp only at H
 obtain ⟨⟨vQ, qF, qG⟩, A5, H⟩ := bnd H
 try dsimp only at H
 obtain ⟨vR, hy137⟩ : ∃ y_ : List Int, y_ = (([1, 3, 4, 8, 16] : List Int)) := ⟨_, rfl⟩
 replace H : ((spec_l1Int.f ah qF qG vR).bind fun gF => ((spec_l1Below.f ah gF.2.1 gF.2.2 4).bind fun gG => (some (wrap64 (2 + tC), vK, wrap64 (2 + vN), wrap64 (1 + vQ), gF.1, wrap64 (1 + gG.1), gG.2.1, gG.2.2)))) = some (r1, r2, r3, r4, r5, r6, r7, r8) := by first | (rw [hy137]; with_reducible exact H) | (have H2_ := (Option.bind_some _ _).symm.trans H; rw [hy137]; with_reducible exact H2_) | (have H2_ := (Option.bind_some _ _).symm.trans H; with_reducible exact H2_) | with_reducible exact H | (rw [hy137]; exact H) | exact H
 have AU := Aside0.mk hy137
 clear hy137
 obtain ⟨⟨AV, tF, tG⟩, A6, H⟩ := bnd H
 try dsimp only at H
 obtain ⟨⟨AW, Gn, Gp⟩, A7, H⟩ := bnd H
 try dsimp only at H
 simp only [Option.some.injEq, Prod.mk.injEq] at H
 obtain ⟨rfl, rfl, rfl, rfl, rfl, rfl, rfl, rfl⟩ := H
 go_enter Tryd.func23, Tryd.ntmps23
 go_wp2_with (first | ((with_reducible refine gate_dst (N := 2) rfl ?_); refine box_ev 2 #[.int .i64 0, .int .i64 0, .int .i64 0, .int .i64 0, .int .i64 0, .int .i64 0] 25 ?_; intro px hg w8 hbox hb; replace HB := am (below_step q60t hb); have ff := am (hbox); have F4 := am ((q46t : w.heap.size ≤ px)); have OL := am ((Nat.le_trans HW0.out (q46t : w.heap.size ≤ px) : w0.heap.size ≤ px)); replace HK := am (KeepBut.trans q64t (KeepBut.of_below hb g none) (.inl rfl)); have Gq := am ((q18t : g ≠ px)); have oC := am ((q19t : px ≠ g)); replace HI0 := am (IsS69.below q61t hb); clear hb hbox hg) | ((with_reducible refine gate_callee (f := 26) rfl ?_); refine goesL_ (some 4) rfl rfl Tryd.func26 (by kernel_rfl) rfl #[.pointer (some ⟨g, 0, none⟩), .int .i64 11] rfl q66t ?_; (with_reducible refine (spec_l1Below.calls g ah a5 a7 11 tC tD tE w0 _ ?side1 ?side2 A2.out).mono ?_); (case side1 => repeat (first | (with_reducible first | exact HI0.out | apply IsS69.alloc | apply IsS69.drewN | apply IsS69.drew | apply IsS69.set_1 | apply IsS69.set_2 | refine IsS69.far ?_ (Aside0.out q123t) _) | exact HI0.out)); (case side2 => repeat (first | (with_reducible first | exact HB.out | apply below_alloc | apply pw_below_drewN | apply below_drew1 | refine below_set ?_ (IsS69.ge HI0.out) | refine below_set ?_ (Aside0.out q123t)) | exact HB.out)); rintro e w9 ⟨rfl, hi, hb, hk⟩; refine ⟨_, rfl, ?_⟩; replace ff := kbb ff hk oC.out q126t; replace HK := am (KeepBut.trans q49t hk (.inl rfl)); replace HB := am (hb); replace HI0 := am (hi); (try clear hb); (try clear hb2); (try clear hk); (try clear hi)) | ((with_reducible refine gate_dst (N := 7) rfl ?_); refine Kd.R_lit (Kd.int .i64) _ 3 ?hg (N := 7) ?hd (xs := ([8, 8, 9, 12, 16] : List Int)) (inner := [.int .i64 8, .int .i64 8, .int .i64 9, .int .i64 12, .int .i64 16]) (ok := fun _ => True) (okp := fun _ => True) ?hr ?hp (fun _ hk => hk) trivial (Below.refl _ _) (Nat.le_refl _) q126t ?_; (case hd => rfl); (case hg => rfl); (case hr => first | (go_simp; done) | (go_simp; rfl)); (case hp => exact (Reps.one (show Kd.M (Kd.int .i64) _ _ _ 8 [.int .i64 8] from rfl) (Reps.one (show Kd.M (Kd.int .i64) _ _ _ 8 [.int .i64 8] from rfl) (Reps.one (show Kd.M (Kd.int .i64) _ _ _ 9 [.int .i64 9] from rfl) (Reps.one (show Kd.M (Kd.int .i64) _ _ _ 12 [.int .i64 12] from rfl) (Reps.one (show Kd.M (Kd.int .i64) _ _ _ 16 [.int .i64 16] from rfl) (Reps.none _ _))))))); intro v126 w10 ho11 hb hg_ hnew_; clear hg_ hnew_; (first | rw [← AT.out] at ho11 | (simp only [Int.reduceToNat] at ho11; rw [← AT.out] at ho11)); have jN := am (Kd.R_lower ho11 (keep_size (w := w) (g := g) (row := none) q49t)); replace ff := blb ff hb; replace HK := am (KeepBut.trans q49t (KeepBut.of_below hb g none) (.inl rfl)); replace HB := am (below_step q38t hb); replace HI0 := am (IsS69.below q39t hb); clear hb ho11; obtain ⟨tH, tI, qH⟩ := Kd.R_slice jN.out; subst qH) | ((with_reducible refine gate_callee (f := 50) rfl ?_); refine goesL_ (some 8) rfl rfl Tryd.func50 (by kernel_rfl) rfl #[.pointer (some ⟨g, 0, none⟩), .slice tH vJ.length tI] rfl q66t ?_; (with_reducible refine (spec_l1Int.calls g ah tD tE _ _ vJ vK vL vM w0 _ ?side1 ?side2 ?side3 ?side4 ?side5 A3.out).mono ?_); (case side1 => repeat (first | (with_reducible first | exact HI0.out | apply IsS69.alloc | apply IsS69.drewN | apply IsS69.drew | apply IsS69.set_1 | apply IsS69.set_2 | refine IsS69.far ?_ (Aside0.out q123t) _) | exact HI0.out)); (case side2 => repeat (first | (with_reducible first | exact HB.out | apply below_alloc | apply pw_below_drewN | apply below_drew1 | refine below_set ?_ (IsS69.ge HI0.out) | refine below_set ?_ (Aside0.out q123t)) | exact HB.out)); (case side3 => repeat (first | exact (Kd.R_reads' jN.out).2.2 | (with_reducible refine Kd.C_alloc ?_ _) | (with_reducible refine Kd.C_drewN ?_ _) | (with_reducible refine Kd.C_drew ?_))); (case side4 => exact (Kd.R_reads' jN.out).2.1); (case side5 => exact far_slice (IsS69.own_ne HI0.out jN.out q125t)); rintro e w13 ⟨rfl, hi, hb, hk⟩; refine ⟨_, rfl, ?_⟩; replace ff := kbb ff hk oC.out q126t; replace jN := am (Kd.R_mono (Kd.R_keep (IsS69.apart (show IsS69 w0 _ g ah tD tE from by repeat (first | (with_reducible first | exact HI0.out | apply IsS69.alloc | apply IsS69.drewN | apply IsS69.drew | apply IsS69.set_1 | apply IsS69.set_2 | refine IsS69.far ?_ (Aside0.out q123t) _) | exact HI0.out)) q84t q125t) hk (fun _ h => h.2)) (fun _ h => h.1)); replace HK := am (KeepBut.trans q49t hk (.inl rfl)); replace HB := am (hb); replace HI0 := am (hi); (try clear hb); (try clear hb2); (try clear hk); (try clear hi)) | ((with_reducible refine gate_callee (f := 26) rfl ?_); refine goesL_ (some 10) rfl rfl Tryd.func26 (by kernel_rfl) rfl #[.pointer (some ⟨g, 0, none⟩), .int .i64 7] rfl q66t ?_; (with_reducible refine (spec_l1Below.calls g ah vL vM 7 vN vO vP w0 _ ?side1 ?side2 A4.out).mono ?_); (case side1 => repeat (first | (with_reducible first | exact HI0.out | apply IsS69.alloc | apply IsS69.drewN | apply IsS69.drew | apply IsS69.set_1 | apply IsS69.set_2 | refine IsS69.far ?_ (Aside0.out q123t) _) | exact HI0.out)); (case side2 => repeat (first | (with_reducible first | exact HB.out | apply below_alloc | apply pw_below_drewN | apply below_drew1 | refine below_set ?_ (IsS69.ge HI0.out) | refine below_set ?_ (Aside0.out q123t)) | exact HB.out)); rintro e w14 ⟨rfl, hi, hb, hk⟩; refine ⟨_, rfl, ?_⟩; replace ff := kbb ff hk oC.out q126t; replace jN := am (Kd.R_mono (Kd.R_keep (IsS69.apart (show IsS69 w0 _ g ah vL vM from by repeat (first | (with_reducible first | exact HI0.out | apply IsS69.alloc | apply IsS69.drewN | apply IsS69.drew | apply IsS69.set_1 | apply IsS69.set_2 | refine IsS69.far ?_ (Aside0.out q123t) _) | exact HI0.out)) q84t q125t) hk (fun _ h => h.2)) (fun _ h => h.1)); replace HK := am (KeepBut.trans q49t hk (.inl rfl)); replace HB := am (hb); replace HI0 := am (hi); (try clear hb); (try clear hb2); (try clear hk); (try clear hi)) | ((with_reducible refine gate_callee (f := 26) rfl ?_); refine goesL_ (some 13) rfl rfl Tryd.func26 (by kernel_rfl) rfl #[.pointer (some ⟨g, 0, none⟩), .int .i64 6] rfl q66t ?_; (with_reducible refine (spec_l1Below.calls g ah vO vP 6 vQ qF qG w0 _ ?side1 ?side2 A5.out).mono ?_); (case side1 => repeat (first | (with_reducible first | exact HI0.out | apply IsS69.alloc | apply IsS69.drewN | apply IsS69.drew | apply IsS69.set_1 | apply IsS69.set_2 | refine IsS69.far ?_ (Aside0.out q123t) _) | exact HI0.out)); (case side2 => repeat (first | (with_reducible first | exact HB.out | apply below_alloc | apply pw_below_drewN | apply below_drew1 | refine below_set ?_ (IsS69.ge HI0.out) | refine below_set ?_ (Aside0.out q123t)) | exact HB.out)); rintro e w15 ⟨rfl, hi, hb, hk⟩; refine ⟨_, rfl, ?_⟩; replace ff := kbb ff hk oC.out q126t; replace jN := am (Kd.R_mono (Kd.R_keep (IsS69.apart (show IsS69 w0 _ g ah vO vP from by repeat (first | (with_reducible first | exact HI0.out | apply IsS69.alloc | apply IsS69.drewN | apply IsS69.drew | apply IsS69.set_1 | apply IsS69.set_2 | refine IsS69.far ?_ (Aside0.out q123t) _) | exact HI0.out)) q84t q125t) hk (fun _ h => h.2)) (fun _ h => h.1)); replace HK := am (KeepBut.trans q49t hk (.inl rfl)); replace HB := am (hb); replace HI0 := am (hi); (try clear hb); (try clear hb2); (try clear hk); (try clear hi)) | ((with_reducible refine gate_dst (N := 16) rfl ?_); refine Kd.R_lit (Kd.int .i64) _ 3 ?hg (N := 16) ?hd (xs := ([1, 3, 4, 8, 16] : List Int)) (inner := [.int .i64 1, .int .i64 3, .int .i64 4, .int .i64 8, .int .i64 16]) (ok := fun _ => True) (okp := fun _ => True) ?hr ?hp (fun _ hk => hk) trivial (Below.refl _ _) (Nat.le_refl _) q126t ?_; (case hd => rfl); (case hg => rfl); (case hr => first | (go_simp; done) | (go_simp; rfl)); (case hp => exact (Reps.one (show Kd.M (Kd.int .i64) _ _ _ 1 [.int .i64 1] from rfl) (Reps.one (show Kd.M (Kd.int .i64) _ _ _ 3 [.int .i64 3] from rfl) (Reps.one (show Kd.M (Kd.int .i64) _ _ _ 4 [.int .i64 4] from rfl) (Reps.one (show Kd.M (Kd.int .i64) _ _ _ 8 [.int .i64 8] from rfl) (Reps.one (show Kd.M (Kd.int .i64) _ _ _ 16 [.int .i64 16] from rfl) (Reps.none _ _))))))); intro v138 w16 ho17 hb hg_ hnew_; clear hg_ hnew_; (first | rw [← AU.out] at ho17 | (simp only [Int.reduceToNat] at ho17; rw [← AU.out] at ho17)); have nk := am (Kd.R_lower (Kd.R_new' ho17 (Kd.R_lt q84t)) (keep_size (w := w) (g := g) (row := none) q49t)); replace jN := am (Kd.R_elder' q84t (Kd.R_base ho17) hb); replace ff := blb ff hb; replace HK := am (KeepBut.trans q49t (KeepBut.of_below hb g none) (.inl rfl)); replace HB := am (below_step q38t hb); replace HI0 := am (IsS69.below q39t hb); clear hb ho17; obtain ⟨gH, gI, vS⟩ := Kd.R_slice nk.out; subst vS) | ((with_reducible refine gate_callee (f := 50) rfl ?_); refine goesL_ (some 17) rfl rfl Tryd.func50 (by kernel_rfl) rfl #[.pointer (some ⟨g, 0, none⟩), .slice gH vR.length gI] rfl q66t ?_; (with_reducible refine (spec_l1Int.calls g ah qF qG _ _ vR AV tF tG w0 _ ?side1 ?side2 ?side3 ?side4 ?side5 A6.out).mono ?_); (case side1 => repeat (first | (with_reducible first | exact HI0.out | apply IsS69.alloc | apply IsS69.drewN | apply IsS69.drew | apply IsS69.set_1 | apply IsS69.set_2 | refine IsS69.far ?_ (Aside0.out q123t) _) | exact HI0.out)); (case side2 => repeat (first | (with_reducible first | exact HB.out | apply below_alloc | apply pw_below_drewN | apply below_drew1 | refine below_set ?_ (IsS69.ge HI0.out) | refine below_set ?_ (Aside0.out q123t)) | exact HB.out)); (case side3 => repeat (first | exact (Kd.R_reads' nk.out).2.2 | (with_reducible refine Kd.C_alloc ?_ _) | (with_reducible refine Kd.C_drewN ?_ _) | (with_reducible refine Kd.C_drew ?_))); (case side4 => exact (Kd.R_reads' nk.out).2.1); (case side5 => exact far_slice (IsS69.own_ne HI0.out nk.out q125t)); rintro e w19 ⟨rfl, hi, hb, hk⟩; refine ⟨_, rfl, ?_⟩; replace ff := kbb ff hk oC.out q126t; replace jN := am (Kd.R_mono (Kd.R_keep (IsS69.apart (show IsS69 w0 _ g ah qF qG from by repeat (first | (with_reducible first | exact HI0.out | apply IsS69.alloc | apply IsS69.drewN | apply IsS69.drew | apply IsS69.set_1 | apply IsS69.set_2 | refine IsS69.far ?_ (Aside0.out q123t) _) | exact HI0.out)) q84t q125t) hk (fun _ h => h.2)) (fun _ h => h.1)); replace nk := am (Kd.R_mono (Kd.R_keep (IsS69.apart (show IsS69 w0 _ g ah qF qG from by repeat (first | (with_reducible first | exact HI0.out | apply IsS69.alloc | apply IsS69.drewN | apply IsS69.drew | apply IsS69.set_1 | apply IsS69.set_2 | refine IsS69.far ?_ (Aside0.out q123t) _) | exact HI0.out)) (by (with_reducible repeat (first | apply Kd.R_alloc | apply Kd.R_drewN | apply Kd.R_drew)); exact nk.out) q125t) hk (fun _ h => h.2)) (fun _ h => h.1)); replace HK := am (KeepBut.trans q49t hk (.inl rfl)); replace HB := am (hb); replace HI0 := am (hi); (try clear hb); (try clear hb2); (try clear hk); (try clear hi)) | ((with_reducible refine gate_callee (f := 26) rfl ?_); refine goesL_ (some 19) rfl rfl Tryd.func26 (by kernel_rfl) rfl #[.pointer (some ⟨g, 0, none⟩), .int .i64 4] rfl q66t ?_; (with_reducible refine (spec_l1Below.calls g ah tF tG 4 AW Gn Gp w0 _ ?side1 ?side2 A7.out).mono ?_); (case side1 => repeat (first | (with_reducible first | exact HI0.out | apply IsS69.alloc | apply IsS69.drewN | apply IsS69.drew | apply IsS69.set_1 | apply IsS69.set_2 | refine IsS69.far ?_ (Aside0.out q123t) _) | exact HI0.out)); (case side2 => repeat (first | (with_reducible first | exact HB.out | apply below_alloc | apply pw_below_drewN | apply below_drew1 | refine below_set ?_ (IsS69.ge HI0.out) | refine below_set ?_ (Aside0.out q123t)) | exact HB.out)); rintro e w20 ⟨rfl, hi, hb, hk⟩; refine ⟨_, rfl, ?_⟩; replace ff := kbb ff hk oC.out q126t; replace jN := am (Kd.R_mono (Kd.R_keep (IsS69.apart (show IsS69 w0 _ g ah tF tG from by repeat (first | (with_reducible first | exact HI0.out | apply IsS69.alloc | apply IsS69.drewN | apply IsS69.drew | apply IsS69.set_1 | apply IsS69.set_2 | refine IsS69.far ?_ (Aside0.out q123t) _) | exact HI0.out)) q84t q125t) hk (fun _ h => h.2)) (fun _ h => h.1)); replace nk := am (Kd.R_mono (Kd.R_keep (IsS69.apart (show IsS69 w0 _ g ah tF tG from by repeat (first | (with_reducible first | exact HI0.out | apply IsS69.alloc | apply IsS69.drewN | apply IsS69.drew | apply IsS69.set_1 | apply IsS69.set_2 | refine IsS69.far ?_ (Aside0.out q123t) _) | exact HI0.out)) (by (with_reducible repeat (first | apply Kd.R_alloc | apply Kd.R_drewN | apply Kd.R_drew)); exact nk.out) q125t) hk (fun _ h => h.2)) (fun _ h => h.1)); replace HK := am (KeepBut.trans q49t hk (.inl rfl)); replace HB := am (hb); replace HI0 := am (hi); (try clear hb); (try clear hb2); (try clear hk); (try clear hi); have tJ := oC.out; have tK := Gq.out; have qI := qc6 ff.out; have qJ := qf6 ff.out))
 refine bodyPost_ret (results_cell_row rfl _ _ px 25 #[(wrap64 (2 + tC)), vK, (wrap64 (2 + vN)), (wrap64 (1 + vQ)), AV, (wrap64 (1 + AW))] (0, 0) _ rfl (qbp ff) Tryd.underlying25 rfl (by kernel_rfl)) rfl ?_
 exact ⟨q114t, q39t, q38t, q49t⟩

/-! ### spec_NodeNew: function 20 -/
def spec_NodeNew.f (a0 : Int) : Option (Int × Int × Int × Int × Int × Int × Int × Int × List Int × Int × Int × (List (S33)) × List Int) := some (0, a0, 0, 0, 0, 0, 0, 0, ([] : List Int), 0, 0, ([] : List (S33)), ([] : List Int))
set_option maxHeartbeats 8000000 in
set_option maxRecDepth 100000 in
theorem spec_NodeNew.calls (a0 : Int) (r1 : Int) (r2 : Int) (r3 : Int) (r4 : Int) (r5 : Int) (r6 : Int) (r7 : Int) (r8 : Int) (r9 : List Int) (r10 : Int) (r11 : Int) (r12 : List (S33)) (r13 : List Int) (w : World) (h : spec_NodeNew.f a0 = some (r1, r2, r3, r4, r5, r6, r7, r8, r9, r10, r11, r12, r13)) :
  Calls Tryd.prog 20 #[a0] w fun e w' => ∃ v8_ v11_ v12_ : Value, e = .returned (.agg #[r1, r2, r3, r4, r5, r6, r7, r8, v8_, r10, r11, v11_, v12_]) ∧ Kd.R (Kd.int .i64) 3 w' w.heap.size (fun k_ => some k_ ≠ (v12_ : Value).ownBlock) v8_ r9 ∧ Kd.R k33 33 w' w.heap.size (fun _ => True) v11_ r12 ∧ Kd.R (Kd.int .i64) 3 w' w.heap.size (fun k_ => some k_ ≠ (v8_ : Value).ownBlock) v12_ r13 ∧ Below w.heap.size w w' := by
 have hu29 := Tryd.underlying29
 have HB := am (Below.refl w.heap.size w)
 have H : (some (0, a0, 0, 0, 0, 0, 0, 0, ([] : List Int), 0, 0, ([] : List (S33)), ([] : List Int))) = some (r1, r2, r3, r4, r5, r6, r7, r8, r9, r10, r11, r12, r13) := h
 clear h
 simp only [Option.some.injEq, Prod.mk.injEq] at H
 obtain ⟨rfl, rfl, rfl, rfl, rfl, rfl, rfl, rfl, rfl, rfl, rfl, rfl, rfl⟩ := H
 go_enter Tryd.func20, Tryd.ntmps20
 go_wp2_with (first | ((with_reducible refine gate_dst (N := 2) rfl ?_); refine box_ev 2 #[.int .i64 0, .int .i64 0, .int .i64 0, .int .i64 0, .int .i64 0, .int .i64 0, .int .i64 0, .int .i64 0, .slice none 0 0, .int .i64 0, .int .i64 0, .slice none 0 0, .slice none 0 0] 29 ?_; intro vT hg w2 hbox hb; have vU := am (hbox); have OM := am ((q63t : w.heap.size ≤ vT)); have ON := am ((q63t : w.heap.size ≤ vT)); replace HB := am (below_step q68t hb); clear hb hbox hg; have Gr := qc13 vU.out; have Gs := qf13 vU.out))
 refine bodyPost_ret (results_cell_row rfl _ _ vT 29 #[.int .i64 0, a0, .int .i64 0, .int .i64 0, .int .i64 0, .int .i64 0, .int .i64 0, .int .i64 0, .slice none 0 0, .int .i64 0, .int .i64 0, .slice none 0 0, .slice none 0 0] (0, 0) _ rfl (qbp vU) Tryd.underlying29 rfl (by kernel_rfl)) rfl ?_
 exact ⟨_, _, _, q114t, q65t, q65t, q65t, q47t⟩

/-! ### spec_l1Once: function 28 -/
def spec_l1Once.f (ah : List Int) (a5 : Int) (a7 : Int) (a1 : Int) : Option (Bool × Int × Int) := (spec_l1Below.f ah a5 a7 a1).bind fun oD => (some ((oD.1 == 0), oD.2.1, oD.2.2))
set_option maxHeartbeats 8000000 in
set_option maxRecDepth 100000 in
theorem spec_l1Once.calls (g : Nat) (ah : List Int) (a5 : Int) (a7 : Int) (a1 : Int) (r1 : Bool) (r2 : Int) (r3 : Int) (w0 w : World) (hI : IsS69 w0 w g ah a5 a7) (hB : Below w0.heap.size w0 w) (h : spec_l1Once.f ah a5 a7 a1 = some (r1, r2, r3)) :
  Calls Tryd.prog 28 #[.pointer (some ⟨g, 0, none⟩), a1] w fun e w' => e = .returned (.bool r1) ∧ IsS69 w0 w' g ah r2 r3 ∧ Below w0.heap.size w0 w' ∧ KeepBut w w' g none := by
 have HI0 := Aside0.mk hI
 have HK := am (KeepBut.refl w g none)
 have HL := Aside0.mk hB.size
 clear hI
 have HW0 := Aside0.mk hB.size
 have HB := Aside0.mk hB
 clear hB
 have H : ((spec_l1Below.f ah a5 a7 a1).bind fun oD => (some ((oD.1 == 0), oD.2.1, oD.2.2))) = some (r1, r2, r3) := h
 clear h
 obtain ⟨⟨Gt, Gu, Gv⟩, A3, H⟩ := bnd H
 try dsimp only at H
 simp only [Option.some.injEq, Prod.mk.injEq] at H
 obtain ⟨rfl, rfl, rfl⟩ := H
 go_enter Tryd.func28, Tryd.ntmps28
 go_wp2_with (first | ((with_reducible refine gate_callee (f := 26) rfl ?_); refine goesL_ (some 7) rfl rfl Tryd.func26 (by kernel_rfl) rfl #[.pointer (some ⟨g, 0, none⟩), a1] rfl q66t ?_; (with_reducible refine (spec_l1Below.calls g ah a5 a7 a1 Gt Gu Gv w0 _ ?side1 ?side2 A3.out).mono ?_); (case side1 => repeat (first | (with_reducible first | exact HI0.out | apply IsS69.alloc | apply IsS69.drewN | apply IsS69.drew | apply IsS69.set_1 | apply IsS69.set_2) | exact HI0.out)); (case side2 => repeat (first | (with_reducible first | exact HB.out | apply below_alloc | apply pw_below_drewN | apply below_drew1 | refine below_set ?_ (IsS69.ge HI0.out)) | exact HB.out)); rintro e w4 ⟨rfl, hi, hb, hk⟩; refine ⟨_, rfl, ?_⟩; replace HK := am (KeepBut.trans q64t hk (.inl rfl)); replace HB := am (hb); replace HI0 := am (hi); (try clear hb); (try clear hb2); (try clear hk); (try clear hi)))
 go_ret
 exact ⟨q114t, q61t, q60t, q64t⟩

end Go.Proofs.YtofpmdgndegalacDoor.QFnNodes
