/- What the functions that the law FnExactClear reaches compute, as plain functions, and that the code computes just that (by a program of this session's; the library's functions by hand). No condition. -/
import Derived.Test.YtnloeihhimcblaaQFnExactClearx0
import Derived.Test.YtnloeihhimcblaaQFnExactClearx3
namespace Go.Proofs.Ytnloeihhimcblaa.QFnExactClear
open Go.RowKit Go.Proofs.YtnloeihhimcblaaW.PrintWords Go.Proofs.YtnloeihhimcblaaW.PrintLast Go.Proofs.YtnloeihhimcblaaW.PrintMore
attribute [local go_sem] max2_int min2_int max_two min_two max_three min_three max_four min_four   -- for this text's walks alone
set_option linter.unusedVariables false
set_option linter.unusedSimpArgs false

/-! ### laws_markNodeS: function 37 (by hand) -/
def laws_markNodeS.l0 : Nat → List (S37) → Int → Int → Option (Int × (List (S37)))
  | 0, _, _, _ => none
  | k + 1, x0, x1, x5 => if x5 < (x0.length : Int) then (if 0 ≤ x5 then ((laws_markIntS.f k (rd_T37 x0 x5).f8 (wrap64 ((wrap64 ((wrap64 ((wrap64 ((wrap64 ((wrap64 ((wrap64 ((wrap64 (x1 + 1)) + 1)) + 1)) + 1)) + 1)) + 1)) + 1)) + 1))).bind fun b => ((laws_markThingS.f k (rd_T37 x0 x5).f11 (wrap64 ((wrap64 (b.1 + 1)) + 1))).bind fun c => ((laws_markIntS.f k (rd_T37 x0 x5).f12 c.1).bind fun d => (laws_markNodeS.l0 k (x0.set (x5 : Int).toNat (⟨x1, wrap64 (x1 + 1), wrap64 ((wrap64 (x1 + 1)) + 1), wrap64 ((wrap64 ((wrap64 (x1 + 1)) + 1)) + 1), wrap64 ((wrap64 ((wrap64 ((wrap64 (x1 + 1)) + 1)) + 1)) + 1), wrap64 ((wrap64 ((wrap64 ((wrap64 ((wrap64 (x1 + 1)) + 1)) + 1)) + 1)) + 1), wrap64 ((wrap64 ((wrap64 ((wrap64 ((wrap64 ((wrap64 (x1 + 1)) + 1)) + 1)) + 1)) + 1)) + 1), wrap64 ((wrap64 ((wrap64 ((wrap64 ((wrap64 ((wrap64 ((wrap64 (x1 + 1)) + 1)) + 1)) + 1)) + 1)) + 1)) + 1), b.2, b.1, wrap64 (b.1 + 1), c.2, d.2⟩ : S37)) d.1 (wrap64 (x5 + 1)))))) else (none)) else (some (x1, x0))
def laws_markNodeS.f (k : Nat) (l0 : List (S37)) (a1 : Int) : Option (Int × (List (S37))) := laws_markNodeS.l0 k l0 a1 0
theorem laws_markNodeS.mono_l : ∀ k, (∀ y0 y1 y2, LeO (laws_markNodeS.l0 k y0 y1 y2) (laws_markNodeS.l0 (k + 1) y0 y1 y2))
  | 0 => fun _ _ _ r h => by simp [laws_markNodeS.l0] at h
  | k + 1 => by
    have ih0 := laws_markNodeS.mono_l k
    · intro y0 y1 y2
      unfold laws_markNodeS.l0
      repeat' first
      | (with_reducible exact ih0 _ _ _)
      | (with_reducible exact laws_markIntS.mono _ _ _)
      | (with_reducible exact laws_markThingS.mono _ _ _)
      | (with_reducible exact LeO.refl _)
      | (with_reducible exact LeO.none _)
      | (with_reducible refine LeO.ite ?_ ?_)
      | (with_reducible refine LeO.bind ?_ (fun _ => ?_))
      | exact ih0 _ _ _
      | exact laws_markIntS.mono _ _ _
      | exact laws_markThingS.mono _ _ _
      | exact LeO.none _
      | refine LeO.ite ?_ ?_
      | refine LeO.bind ?_ (fun _ => ?_)
theorem laws_markNodeS.mono : ∀ a0 a1 k, LeO (laws_markNodeS.f k a0 a1) (laws_markNodeS.f (k + 1) a0 a1) := by
  intro a0 a1 k
  exact laws_markNodeS.mono_l k _ _ _
theorem laws_markNodeS.elder {α : Type} {d : Kd α} {e base : Nat} {W w1 : World} {ok : Nat → Prop} {u v : Value} {xs : List α} (h : Kd.S d e W base ok u xs) (hbase : ∀ k, v.ownBlock = some k → W.heap.size ≤ k) (hb : Below W.heap.size W w1) : Kd.S d e w1 base (fun k => (ok k ∧ k < W.heap.size) ∧ some k ≠ v.ownBlock) u xs :=
  Kd.S_elder' (Kd.S_mono (Kd.S_bound h) (fun k hk => ⟨hk.1, hk.2.2.1⟩)) hbase hb
theorem laws_markNodeS.fresh {α : Type} {d : Kd α} {e base : Nat} {w1 : World} {v : Value} {xs : List α} (h : Kd.S d e w1 base (fun _ => True) v xs) : Kd.S d e w1 base (fun k => True ∧ base ≤ k) v xs :=
  Kd.S_mono (Kd.S_bound h) (fun k hk => ⟨trivial, hk.2.1⟩)
theorem laws_markNodeS.ne_blk {w : World} {g t : Nat} {cells : Array Value} {l : List Nat} (h : ∃ q, q ∈ l ∧ ∃ cells, w.heap[g]? = some (.cells cells q (0, 0))) (hb : w.heap[g]? = some (.cells cells t (0, 0))) (ht : ∀ q, q ∈ l → q ≠ t) : False := by
  obtain ⟨q, hq, c, hc⟩ := h
  rw [hc] at hb
  injection hb with hb
  injection hb with _ hb
  exact ht q hq hb
/-- In the midst of element i: the row with a hole, the element's cells, and the three rows that it leads to, apart. -/
structure laws_markNodeS.Mid (w0 w W : World) (P0 : Nat → Prop) (g n cap : Nat) (xs : List (S37)) (i : Int) (oki : Nat → Prop) (c : List Value) (v8 v11 v12 : Value) (l8 : List Int) (l11 : List (S84)) (l12 : List Int) : Prop where
  hole : Kd.H k37 37 W w0.heap.size (fun k_ => P0 k_) (.slice (some ⟨g, 0, none⟩) n cap) xs i oki c
  h0 : 0 ≤ i
  h1 : i < n
  r8 : Kd.R (Kd.int .i64) 3 W w0.heap.size (fun k_ => some k_ = v8.ownBlock) v8 l8
  r11 : Kd.R k84 84 W w0.heap.size (fun k_ => some k_ = v11.ownBlock) v11 l11
  r12 : Kd.R (Kd.int .i64) 3 W w0.heap.size (fun k_ => some k_ = v12.ownBlock) v12 l12
  i8 : ∀ k_, some k_ = v8.ownBlock → oki k_
  i11 : ∀ k_, some k_ = v11.ownBlock → oki k_
  i12 : ∀ k_, some k_ = v12.ownBlock → oki k_
  ap : ∀ b, v8.ownBlock = some b → v12.ownBlock ≠ some b
  below : Below w0.heap.size w0 W
  kept : Kept w W P0
  big : w0.heap.size ≤ w.heap.size
section
variable {w0 w W W1 : World} {P0 : Nat → Prop} {g n cap : Nat} {xs : List (S37)} {i : Int} {oki : Nat → Prop} {c : List Value} {v8 v11 v12 : Value} {l8 m8 : List Int} {l11 m11 : List (S84)} {l12 m12 : List Int}
theorem laws_markNodeS.Mid.own (h : laws_markNodeS.Mid w0 w W P0 g n cap xs i oki c v8 v11 v12 l8 l11 l12) : P0 g := by
  obtain ⟨_, f, hR⟩ := h.hole
  exact (hR.1 g (by simp [Value.ownBlock])).1
theorem laws_markNodeS.Mid.away (h : laws_markNodeS.Mid w0 w W P0 g n cap xs i oki c v8 v11 v12 l8 l11 l12) : ∀ k_, oki k_ → k_ ≠ g := by
  intro k_ hk he
  subst he
  obtain ⟨_, f, hR⟩ := h.hole
  exact (hR.1 k_ (by simp [Value.ownBlock])).2 hk
theorem laws_markNodeS.Mid.base (h : laws_markNodeS.Mid w0 w W P0 g n cap xs i oki c v8 v11 v12 l8 l11 l12) : w0.heap.size ≤ g := by
  obtain ⟨_, f, hR⟩ := h.hole
  obtain ⟨inner, ho⟩ := Kd.R_own hR
  exact own_base ho g (by simp [Value.ownBlock])
theorem laws_markNodeS.Mid.cell (h : laws_markNodeS.Mid w0 w W P0 g n cap xs i oki c v8 v11 v12 l8 l11 l12) (j : Nat) (u : Value) (hu : c[j]? = some u) : W.cell? ⟨g, i.toNat * 13 + j, none⟩ = some u := by
  obtain ⟨_, _, _, _, _, hcc, _⟩ := Kd.H_raw h.hole h.h0 h.h1
  exact hcc j u hu
theorem laws_markNodeS.Mid.len (h : laws_markNodeS.Mid w0 w W P0 g n cap xs i oki c v8 v11 v12 l8 l11 l12) : c.length = 13 := by
  obtain ⟨_, _, _, hcl, _⟩ := Kd.H_raw h.hole h.h0 h.h1
  exact hcl
theorem laws_markNodeS.Mid.frozen (h : laws_markNodeS.Mid w0 w W P0 g n cap xs i oki c v8 v11 v12 l8 l11 l12) (j : Nat) : W.frozen? ⟨g, j, none⟩ = false := by
  obtain ⟨_, f, hR⟩ := h.hole
  obtain ⟨cells, hc⟩ := Kd.R_typed hR g (by simp [Value.ownBlock])
  exact blk_frozen hc j
theorem laws_markNodeS.Mid.store (h : laws_markNodeS.Mid w0 w W P0 g n cap xs i oki c v8 v11 v12 l8 l11 l12) (j : Nat) (hj : j < 13) (u : Value) (hu : u.oneCell' = true) : laws_markNodeS.Mid w0 w (W.setCell ⟨g, i.toNat * 13 + j, none⟩ u) P0 g n cap xs i oki (c.take j ++ [u] ++ c.drop (j + 1)) v8 v11 v12 l8 l11 l12 := by
  obtain ⟨h2, h3⟩ := Kd.H_seg h.hole h.h0 h.h1 (seg := [u]) (j := j) (show j + 1 ≤ 13 from hj) (fun q hq => by rw [List.mem_singleton.mp hq]; exact hu)
  have hne : ∀ k_, oki k_ → k_ ≠ g := h.away
  exact { hole := h2, h0 := h.h0, h1 := h.h1, r8 := Kd.R_far h.r8 (fun k_ hk => hne k_ (h.i8 k_ hk)) u, r11 := Kd.R_far h.r11 (fun k_ hk => hne k_ (h.i11 k_ hk)) u, r12 := Kd.R_far h.r12 (fun k_ hk => hne k_ (h.i12 k_ hk)) u, i8 := h.i8, i11 := h.i11, i12 := h.i12, ap := h.ap, below := below_set h.below h.base, kept := Kept.setCell h.kept (.inl h.own) u, big := h.big }
theorem laws_markNodeS.Mid.ok (h : laws_markNodeS.Mid w0 w W P0 g n cap xs i oki c v8 v11 v12 l8 l11 l12) : ∀ k_, oki k_ → P0 k_ := h.hole.1
theorem laws_markNodeS.Mid.drawn (h : laws_markNodeS.Mid w0 w W P0 g n cap xs i oki c v8 v11 v12 l8 l11 l12) (hb : Below W.heap.size W W1) : laws_markNodeS.Mid w0 w W1 P0 g n cap xs i oki c v8 v11 v12 l8 l11 l12 :=
  { hole := Kd.H_below h.hole hb, h0 := h.h0, h1 := h.h1, r8 := Kd.R_below h.r8 hb, r11 := Kd.R_below h.r11 hb, r12 := Kd.R_below h.r12 hb, i8 := h.i8, i11 := h.i11, i12 := h.i12, ap := h.ap, below := below_step h.below hb, kept := Kept.below h.kept hb, big := h.big }
theorem laws_markNodeS.Mid.split (h : laws_markNodeS.Mid w0 w W P0 g n cap xs i oki c v8 v11 v12 l8 l11 l12) : (∀ k_, some k_ = v11.ownBlock → some k_ ≠ v8.ownBlock) ∧ (∀ k_, some k_ = v11.ownBlock → some k_ ≠ v12.ownBlock) := by
  constructor
  · intro k_ h1 h2
    obtain ⟨c1, e1⟩ := Kd.R_typed h.r11 k_ h1.symm
    obtain ⟨c2, e2⟩ := Kd.R_typed h.r8 k_ h2.symm
    rw [e1] at e2
    injection e2 with e2
    injection e2 with _ e2
    exact absurd e2 (by decide)
  · intro k_ h1 h2
    obtain ⟨c1, e1⟩ := Kd.R_typed h.r11 k_ h1.symm
    obtain ⟨c2, e2⟩ := Kd.R_typed h.r12 k_ h2.symm
    rw [e1] at e2
    injection e2 with e2
    injection e2 with _ e2
    exact absurd e2 (by decide)
theorem laws_markNodeS.Mid.mark8 (h : laws_markNodeS.Mid w0 w W P0 g n cap xs i oki c v8 v11 v12 l8 l11 l12) (hr : Kd.R (Kd.int .i64) 3 W1 w0.heap.size (fun k_ => (some k_ = v8.ownBlock ∨ W.heap.size ≤ k_)) v8 m8) (hb : Below w0.heap.size w0 W1) (hk : Kept W W1 (fun k_ => some k_ = v8.ownBlock)) : laws_markNodeS.Mid w0 w W1 P0 g n cap xs i oki c v8 v11 v12 m8 l11 l12 :=
  { hole := Kd.H_kept h.hole hk (fun k_ _ hn he => hn (h.i8 k_ he)), h0 := h.h0, h1 := h.h1, r8 := Kd.R_tight rfl hr, r11 := Kd.R_kept h.r11 hk (fun k_ hk => h.split.1 k_ hk), r12 := Kd.R_kept h.r12 hk (fun k_ h1 h2 => h.ap k_ h2.symm h1.symm), i8 := h.i8, i11 := h.i11, i12 := h.i12, ap := h.ap, below := hb, kept := Kept.then_ h.kept hk (fun k_ he => .inl (h.ok k_ (h.i8 k_ he))), big := h.big }
theorem laws_markNodeS.Mid.mark11 (h : laws_markNodeS.Mid w0 w W P0 g n cap xs i oki c v8 v11 v12 l8 l11 l12) (hr : Kd.R k84 84 W1 w0.heap.size (fun k_ => (some k_ = v11.ownBlock ∨ W.heap.size ≤ k_)) v11 m11) (hb : Below w0.heap.size w0 W1) (hk : Kept W W1 (fun k_ => some k_ = v11.ownBlock)) : laws_markNodeS.Mid w0 w W1 P0 g n cap xs i oki c v8 v11 v12 l8 m11 l12 :=
  { hole := Kd.H_kept h.hole hk (fun k_ _ hn he => hn (h.i11 k_ he)), h0 := h.h0, h1 := h.h1, r8 := Kd.R_kept h.r8 hk (fun k_ h1 h2 => h.split.1 k_ h2 h1), r11 := Kd.R_tight rfl hr, r12 := Kd.R_kept h.r12 hk (fun k_ h1 h2 => h.split.2 k_ h2 h1), i8 := h.i8, i11 := h.i11, i12 := h.i12, ap := h.ap, below := hb, kept := Kept.then_ h.kept hk (fun k_ he => .inl (h.ok k_ (h.i11 k_ he))), big := h.big }
theorem laws_markNodeS.Mid.mark12 (h : laws_markNodeS.Mid w0 w W P0 g n cap xs i oki c v8 v11 v12 l8 l11 l12) (hr : Kd.R (Kd.int .i64) 3 W1 w0.heap.size (fun k_ => (some k_ = v12.ownBlock ∨ W.heap.size ≤ k_)) v12 m12) (hb : Below w0.heap.size w0 W1) (hk : Kept W W1 (fun k_ => some k_ = v12.ownBlock)) : laws_markNodeS.Mid w0 w W1 P0 g n cap xs i oki c v8 v11 v12 l8 l11 m12 :=
  { hole := Kd.H_kept h.hole hk (fun k_ _ hn he => hn (h.i12 k_ he)), h0 := h.h0, h1 := h.h1, r8 := Kd.R_kept h.r8 hk (fun k_ h1 h2 => h.ap k_ h1.symm h2.symm), r11 := Kd.R_kept h.r11 hk (fun k_ hk => h.split.2 k_ hk), r12 := Kd.R_tight rfl hr, i8 := h.i8, i11 := h.i11, i12 := h.i12, ap := h.ap, below := hb, kept := Kept.then_ h.kept hk (fun k_ he => .inl (h.ok k_ (h.i12 k_ he))), big := h.big }
theorem laws_markNodeS.Mid.start (h : Kd.S k37 37 W w0.heap.size (fun k_ => P0 k_) (.slice (some ⟨g, 0, none⟩) n cap) xs) (h0 : 0 ≤ i) (h1 : i < n) (hB : Below w0.heap.size w0 W) (hK : Kept w W P0) (hW : w0.heap.size ≤ w.heap.size) :
    ∃ oki v8 v11 v12, laws_markNodeS.Mid w0 w W P0 g n cap xs i oki [.int .i64 (rd_T37 xs i).f0, .int .i64 (rd_T37 xs i).f1, .int .i64 (rd_T37 xs i).f2, .int .i64 (rd_T37 xs i).f3, .int .i64 (rd_T37 xs i).f4, .int .i64 (rd_T37 xs i).f5, .int .i64 (rd_T37 xs i).f6, .int .i64 (rd_T37 xs i).f7, v8, .int .i64 (rd_T37 xs i).f9, .int .i64 (rd_T37 xs i).f10, v11, v12] v8 v11 v12 (rd_T37 xs i).f8 (rd_T37 xs i).f11 (rd_T37 xs i).f12 := by
  obtain ⟨oki, c, hcl, hM, hcc, hfr, hoki, hH⟩ := Kd.S_elem h z37 i h0 h1
  have hap := k37_apart hM
  obtain ⟨v8, v11, v12, rfl, g8, g11, g12⟩ := k37_openM hM
  exact ⟨oki, v8, v11, v12, { hole := hH, h0 := h0, h1 := h1, r8 := Kd.R_tight rfl g8, r11 := Kd.R_tight rfl g11, r12 := Kd.R_tight rfl g12, i8 := fun k_ hk => g8.1 k_ hk.symm, i11 := fun k_ hk => g11.1 k_ hk.symm, i12 := fun k_ hk => g12.1 k_ hk.symm, ap := hap, below := hB, kept := hK, big := hW }⟩
theorem laws_markNodeS.Mid.back {x' : S37} (h : laws_markNodeS.Mid w0 w W P0 g n cap xs i oki [.int .i64 x'.f0, .int .i64 x'.f1, .int .i64 x'.f2, .int .i64 x'.f3, .int .i64 x'.f4, .int .i64 x'.f5, .int .i64 x'.f6, .int .i64 x'.f7, v8, .int .i64 x'.f9, .int .i64 x'.f10, v11, v12] v8 v11 v12 x'.f8 x'.f11 x'.f12) :
    Kd.S k37 37 W w0.heap.size (fun k_ => P0 k_) (.slice (some ⟨g, 0, none⟩) n cap) (xs.set i.toNat x') :=
  Kd.H_back h.hole (k37_mkM W w0.heap.size oki x' (Kd.R_mono h.r8 h.i8) (Kd.R_mono h.r11 h.i11) (Kd.R_mono h.r12 h.i12) h.ap) (fun _ hk => hk)
end
set_option maxHeartbeats 16000000 in
set_option maxRecDepth 100000 in
theorem laws_markNodeS.calls (k : Nat) (P0_ : Nat → Prop) (u9000_ : Value) (l0 : List (S37)) (a1 : Int) (r1 : Int) (r2 : List (S37)) (w0 w : World) (hB : Below w0.heap.size w0 w) (ho0 : Kd.S k37 37 w w0.heap.size P0_ u9000_ l0) (h : laws_markNodeS.f k l0 a1 = some (r1, r2)) :
    Calls Try.prog 37 #[u9000_, .int .i64 a1] w fun e w' => e = .returned (.int .i64 r1) ∧ Kd.S k37 37 w' w0.heap.size (fun k_ => P0_ k_) u9000_ r2 ∧ Below w0.heap.size w0 w' ∧ Kept w w' (fun k_ => P0_ k_) := by
  have HO0 := Aside0.mk (show Kd.S k37 37 w w0.heap.size (fun k_ => P0_ k_) u9000_ l0 from ho0)
  have HK := Aside0.mk (Kept.refl w (fun k_ => P0_ k_))
  have HW0 := Aside0.mk hB.size
  have HB := Aside0.mk hB
  clear hB
  have H : (laws_markNodeS.l0 k l0 a1 0) = some (r1, r2) := h
  clear h
  have H' := Aside0.mk H
  clear H
  go_enter Try.func37, Try.ntmps37
  go_wp2
  go_loopg [1, 5] k (fun kq v1 v5 w' => ∃ (x0_1 : List (S37)) (x1_1 : Int) (x5_1 : Int), v1 = .int .i64 x1_1 ∧ v5 = .int .i64 x5_1 ∧ Aside0 (laws_markNodeS.l0 kq x0_1 x1_1 x5_1 = some (r1, r2)) ∧ Aside0 (kq ≤ k) ∧ Aside0 (Kd.S k37 37 w' w0.heap.size (fun k_ => P0_ k_) u9000_ x0_1) ∧ Aside0 (Kept w w' (fun k_ => P0_ k_)) ∧ Aside0 (Below w0.heap.size w0 w'))
  case atStart => exact ⟨(l0), (a1), (0), (by first | rfl | (simp; done) | (simp [*]; done)), (by first | rfl | (simp; done) | (simp [*]; done)), H', ⟨Nat.le_refl _⟩, ⟨by (with_reducible repeat (first | apply Kd.S_alloc | apply Kd.S_drewN | apply Kd.S_drew)); exact HO0.out⟩, ⟨by repeat (first | (with_reducible first | exact HK.out | apply Kept.alloc | apply Kept.drewN | apply Kept.drew) | exact HK.out)⟩, ⟨by repeat (first | (with_reducible first | exact HB.out | apply below_alloc | apply pw_below_drewN | apply below_drew1) | exact HB.out)⟩⟩
  case round =>
    clear H'
    try clear p2
    obtain ⟨x0_1, x1_1, x5_1, rfl, rfl, HA, HK1, HO_0, HK, HB⟩ := hrel
    cases gk with
    | zero => exact absurd HA.out (by simp [laws_markNodeS.l0])
    | succ k1 =>
      have H := HA.out
      clear HA
      simp only [laws_markNodeS.l0] at H
      by_cases c3 : x5_1 < (x0_1.length : Int)
      · rw [if_pos c3] at H
        have c3b0 : decide (x5_1 < (x0_1.length : Int)) = true := decide_eq_true c3
        by_cases c4 : 0 ≤ x5_1
        · rw [if_pos c4] at H
          have c4b0 : decide (0 ≤ x5_1) = true := decide_eq_true c4
          replace H := Option.bind_eq_some_iff.mp H
          obtain ⟨⟨b1, b2⟩, A1, H⟩ := H
          replace H := Option.bind_eq_some_iff.mp H
          obtain ⟨⟨c1, c2⟩, A2, H⟩ := H
          replace H := Option.bind_eq_some_iff.mp H
          obtain ⟨⟨d1, d2⟩, A3, H⟩ := H
          replace A2 : laws_markThingS.f k1 (rd_T37 x0_1 x5_1).f11 (wrap64 ((wrap64 (b1 + 1)) + 1)) = some (c1, c2) := A2
          replace A3 : laws_markIntS.f k1 (rd_T37 x0_1 x5_1).f12 c1 = some (d1, d2) := A3
          replace H : laws_markNodeS.l0 k1 (x0_1.set (x5_1 : Int).toNat (⟨x1_1, wrap64 (x1_1 + 1), wrap64 ((wrap64 (x1_1 + 1)) + 1), wrap64 ((wrap64 ((wrap64 (x1_1 + 1)) + 1)) + 1), wrap64 ((wrap64 ((wrap64 ((wrap64 (x1_1 + 1)) + 1)) + 1)) + 1), wrap64 ((wrap64 ((wrap64 ((wrap64 ((wrap64 (x1_1 + 1)) + 1)) + 1)) + 1)) + 1), wrap64 ((wrap64 ((wrap64 ((wrap64 ((wrap64 ((wrap64 (x1_1 + 1)) + 1)) + 1)) + 1)) + 1)) + 1), wrap64 ((wrap64 ((wrap64 ((wrap64 ((wrap64 ((wrap64 ((wrap64 (x1_1 + 1)) + 1)) + 1)) + 1)) + 1)) + 1)) + 1), b2, b1, wrap64 (b1 + 1), c2, d2⟩ : S37)) d1 (wrap64 (x5_1 + 1)) = some (r1, r2) := H
          replace A1 := Aside0.mk A1
          replace A2 := Aside0.mk A2
          replace A3 := Aside0.mk A3
          have H' := Aside0.mk H
          clear H
          obtain ⟨Ao8, co8, eo8⟩ := Kd.R_slice (Kd.S_R HO_0.out)
          subst eo8
          obtain ⟨go5, co5, eo5, gb5, gl5, cl5, HG5⟩ := Kd.R_form (Kd.S_R HO_0.out) (by omega)
          (first | cases eo5 | (injection eo5 with ea_ en_ ec_; (first | subst ea_ | (injection ea_ with ea_; subst ea_)); subst ec_; clear en_))
          obtain ⟨oki, v8, v11, v12, hm⟩ := laws_markNodeS.Mid.start HO_0.out c4 (by exact_mod_cast c3) HB.out HK.out HW0.out
          have HM := Aside0.mk hm
          clear hm HO_0 HB HK gb5 gl5 HG5
          have p5 := eq_true c4
          have q5 := eq_true c3
          clear c3 c4
          have hx0 : wr.cell? ⟨go5, (x5_1 : Int).toNat * 13, none⟩ = some (.int .i64 (rd_T37 x0_1 x5_1).f0) := HM.out.cell 0 _ rfl
          have hf0 : wr.frozen? ⟨go5, (x5_1 : Int).toNat * 13, none⟩ = false := HM.out.frozen _
          go_wp2_with (first | ((with_reducible refine gate_store (t := 3) (p := 16) rfl ?_); refine store_event (t := 3) (p := 16) (v := ?vo_w20) (w1 := (wr.setCell ⟨go5, (x5_1 : Int).toNat * 13, none⟩ (.int .i64 x1_1))) ?hg ?ho ?hn ?hr ?_; (case ho => rfl); (case hg => rfl); (case hn => rfl); (case hr => first | (go_simp; done) | (go_simp; rfl)); intro w20 hw; have n0_ : Aside0 (laws_markNodeS.Mid w0 w w20 P0_ go5 x0_1.length co8 x0_1 (x5_1 : Int) oki [.int .i64 x1_1, .int .i64 (rd_T37 x0_1 x5_1).f1, .int .i64 (rd_T37 x0_1 x5_1).f2, .int .i64 (rd_T37 x0_1 x5_1).f3, .int .i64 (rd_T37 x0_1 x5_1).f4, .int .i64 (rd_T37 x0_1 x5_1).f5, .int .i64 (rd_T37 x0_1 x5_1).f6, .int .i64 (rd_T37 x0_1 x5_1).f7, v8, .int .i64 (rd_T37 x0_1 x5_1).f9, .int .i64 (rd_T37 x0_1 x5_1).f10, v11, v12] v8 v11 v12 ((rd_T37 x0_1 x5_1).f8) ((rd_T37 x0_1 x5_1).f11) ((rd_T37 x0_1 x5_1).f12)) := ⟨by rw [hw]; exact HM.out.store 0 (by decide) (.int .i64 x1_1) rfl⟩; clear HM hw; have HM := n0_; clear n0_; (try clear hx0 hf0); have hx1 : w20.cell? ⟨go5, (x5_1 : Int).toNat * 13 + 1, none⟩ = some (.int .i64 (rd_T37 x0_1 x5_1).f1) := HM.out.cell 1 _ rfl; have hf1 : w20.frozen? ⟨go5, (x5_1 : Int).toNat * 13 + 1, none⟩ = false := HM.out.frozen _) | ((with_reducible refine gate_store (t := 3) (p := 23) rfl ?_); refine store_event (t := 3) (p := 23) (v := ?vo_w21) (w1 := (w20.setCell ⟨go5, (x5_1 : Int).toNat * 13 + 1, none⟩ (.int .i64 (wrap64 (x1_1 + 1))))) ?hg ?ho ?hn ?hr ?_; (case ho => rfl); (case hg => rfl); (case hn => rfl); (case hr => first | (go_simp; done) | (go_simp; rfl)); intro w21 hw; have n0_ : Aside0 (laws_markNodeS.Mid w0 w w21 P0_ go5 x0_1.length co8 x0_1 (x5_1 : Int) oki [.int .i64 x1_1, .int .i64 (wrap64 (x1_1 + 1)), .int .i64 (rd_T37 x0_1 x5_1).f2, .int .i64 (rd_T37 x0_1 x5_1).f3, .int .i64 (rd_T37 x0_1 x5_1).f4, .int .i64 (rd_T37 x0_1 x5_1).f5, .int .i64 (rd_T37 x0_1 x5_1).f6, .int .i64 (rd_T37 x0_1 x5_1).f7, v8, .int .i64 (rd_T37 x0_1 x5_1).f9, .int .i64 (rd_T37 x0_1 x5_1).f10, v11, v12] v8 v11 v12 ((rd_T37 x0_1 x5_1).f8) ((rd_T37 x0_1 x5_1).f11) ((rd_T37 x0_1 x5_1).f12)) := ⟨by rw [hw]; exact HM.out.store 1 (by decide) (.int .i64 (wrap64 (x1_1 + 1))) rfl⟩; clear HM hw; have HM := n0_; clear n0_; (try clear hx1 hf1); have hx2 : w21.cell? ⟨go5, (x5_1 : Int).toNat * 13 + 2, none⟩ = some (.int .i64 (rd_T37 x0_1 x5_1).f2) := HM.out.cell 2 _ rfl; have hf2 : w21.frozen? ⟨go5, (x5_1 : Int).toNat * 13 + 2, none⟩ = false := HM.out.frozen _) | ((with_reducible refine gate_store (t := 3) (p := 30) rfl ?_); refine store_event (t := 3) (p := 30) (v := ?vo_w22) (w1 := (w21.setCell ⟨go5, (x5_1 : Int).toNat * 13 + 2, none⟩ (.int .i64 (wrap64 ((wrap64 (x1_1 + 1)) + 1))))) ?hg ?ho ?hn ?hr ?_; (case ho => rfl); (case hg => rfl); (case hn => rfl); (case hr => first | (go_simp; done) | (go_simp; rfl)); intro w22 hw; have n0_ : Aside0 (laws_markNodeS.Mid w0 w w22 P0_ go5 x0_1.length co8 x0_1 (x5_1 : Int) oki [.int .i64 x1_1, .int .i64 (wrap64 (x1_1 + 1)), .int .i64 (wrap64 ((wrap64 (x1_1 + 1)) + 1)), .int .i64 (rd_T37 x0_1 x5_1).f3, .int .i64 (rd_T37 x0_1 x5_1).f4, .int .i64 (rd_T37 x0_1 x5_1).f5, .int .i64 (rd_T37 x0_1 x5_1).f6, .int .i64 (rd_T37 x0_1 x5_1).f7, v8, .int .i64 (rd_T37 x0_1 x5_1).f9, .int .i64 (rd_T37 x0_1 x5_1).f10, v11, v12] v8 v11 v12 ((rd_T37 x0_1 x5_1).f8) ((rd_T37 x0_1 x5_1).f11) ((rd_T37 x0_1 x5_1).f12)) := ⟨by rw [hw]; exact HM.out.store 2 (by decide) (.int .i64 (wrap64 ((wrap64 (x1_1 + 1)) + 1))) rfl⟩; clear HM hw; have HM := n0_; clear n0_; (try clear hx2 hf2); have hx3 : w22.cell? ⟨go5, (x5_1 : Int).toNat * 13 + 3, none⟩ = some (.int .i64 (rd_T37 x0_1 x5_1).f3) := HM.out.cell 3 _ rfl; have hf3 : w22.frozen? ⟨go5, (x5_1 : Int).toNat * 13 + 3, none⟩ = false := HM.out.frozen _) | ((with_reducible refine gate_store (t := 3) (p := 37) rfl ?_); refine store_event (t := 3) (p := 37) (v := ?vo_w23) (w1 := (w22.setCell ⟨go5, (x5_1 : Int).toNat * 13 + 3, none⟩ (.int .i64 (wrap64 ((wrap64 ((wrap64 (x1_1 + 1)) + 1)) + 1))))) ?hg ?ho ?hn ?hr ?_; (case ho => rfl); (case hg => rfl); (case hn => rfl); (case hr => first | (go_simp; done) | (go_simp; rfl)); intro w23 hw; have n0_ : Aside0 (laws_markNodeS.Mid w0 w w23 P0_ go5 x0_1.length co8 x0_1 (x5_1 : Int) oki [.int .i64 x1_1, .int .i64 (wrap64 (x1_1 + 1)), .int .i64 (wrap64 ((wrap64 (x1_1 + 1)) + 1)), .int .i64 (wrap64 ((wrap64 ((wrap64 (x1_1 + 1)) + 1)) + 1)), .int .i64 (rd_T37 x0_1 x5_1).f4, .int .i64 (rd_T37 x0_1 x5_1).f5, .int .i64 (rd_T37 x0_1 x5_1).f6, .int .i64 (rd_T37 x0_1 x5_1).f7, v8, .int .i64 (rd_T37 x0_1 x5_1).f9, .int .i64 (rd_T37 x0_1 x5_1).f10, v11, v12] v8 v11 v12 ((rd_T37 x0_1 x5_1).f8) ((rd_T37 x0_1 x5_1).f11) ((rd_T37 x0_1 x5_1).f12)) := ⟨by rw [hw]; exact HM.out.store 3 (by decide) (.int .i64 (wrap64 ((wrap64 ((wrap64 (x1_1 + 1)) + 1)) + 1))) rfl⟩; clear HM hw; have HM := n0_; clear n0_; (try clear hx3 hf3); have hx4 : w23.cell? ⟨go5, (x5_1 : Int).toNat * 13 + 4, none⟩ = some (.int .i64 (rd_T37 x0_1 x5_1).f4) := HM.out.cell 4 _ rfl; have hf4 : w23.frozen? ⟨go5, (x5_1 : Int).toNat * 13 + 4, none⟩ = false := HM.out.frozen _) | ((with_reducible refine gate_store (t := 3) (p := 44) rfl ?_); refine store_event (t := 3) (p := 44) (v := ?vo_w24) (w1 := (w23.setCell ⟨go5, (x5_1 : Int).toNat * 13 + 4, none⟩ (.int .i64 (wrap64 ((wrap64 ((wrap64 ((wrap64 (x1_1 + 1)) + 1)) + 1)) + 1))))) ?hg ?ho ?hn ?hr ?_; (case ho => rfl); (case hg => rfl); (case hn => rfl); (case hr => first | (go_simp; done) | (go_simp; rfl)); intro w24 hw; have n0_ : Aside0 (laws_markNodeS.Mid w0 w w24 P0_ go5 x0_1.length co8 x0_1 (x5_1 : Int) oki [.int .i64 x1_1, .int .i64 (wrap64 (x1_1 + 1)), .int .i64 (wrap64 ((wrap64 (x1_1 + 1)) + 1)), .int .i64 (wrap64 ((wrap64 ((wrap64 (x1_1 + 1)) + 1)) + 1)), .int .i64 (wrap64 ((wrap64 ((wrap64 ((wrap64 (x1_1 + 1)) + 1)) + 1)) + 1)), .int .i64 (rd_T37 x0_1 x5_1).f5, .int .i64 (rd_T37 x0_1 x5_1).f6, .int .i64 (rd_T37 x0_1 x5_1).f7, v8, .int .i64 (rd_T37 x0_1 x5_1).f9, .int .i64 (rd_T37 x0_1 x5_1).f10, v11, v12] v8 v11 v12 ((rd_T37 x0_1 x5_1).f8) ((rd_T37 x0_1 x5_1).f11) ((rd_T37 x0_1 x5_1).f12)) := ⟨by rw [hw]; exact HM.out.store 4 (by decide) (.int .i64 (wrap64 ((wrap64 ((wrap64 ((wrap64 (x1_1 + 1)) + 1)) + 1)) + 1))) rfl⟩; clear HM hw; have HM := n0_; clear n0_; (try clear hx4 hf4); have hx5 : w24.cell? ⟨go5, (x5_1 : Int).toNat * 13 + 5, none⟩ = some (.int .i64 (rd_T37 x0_1 x5_1).f5) := HM.out.cell 5 _ rfl; have hf5 : w24.frozen? ⟨go5, (x5_1 : Int).toNat * 13 + 5, none⟩ = false := HM.out.frozen _) | ((with_reducible refine gate_store (t := 3) (p := 51) rfl ?_); refine store_event (t := 3) (p := 51) (v := ?vo_w25) (w1 := (w24.setCell ⟨go5, (x5_1 : Int).toNat * 13 + 5, none⟩ (.int .i64 (wrap64 ((wrap64 ((wrap64 ((wrap64 ((wrap64 (x1_1 + 1)) + 1)) + 1)) + 1)) + 1))))) ?hg ?ho ?hn ?hr ?_; (case ho => rfl); (case hg => rfl); (case hn => rfl); (case hr => first | (go_simp; done) | (go_simp; rfl)); intro w25 hw; have n0_ : Aside0 (laws_markNodeS.Mid w0 w w25 P0_ go5 x0_1.length co8 x0_1 (x5_1 : Int) oki [.int .i64 x1_1, .int .i64 (wrap64 (x1_1 + 1)), .int .i64 (wrap64 ((wrap64 (x1_1 + 1)) + 1)), .int .i64 (wrap64 ((wrap64 ((wrap64 (x1_1 + 1)) + 1)) + 1)), .int .i64 (wrap64 ((wrap64 ((wrap64 ((wrap64 (x1_1 + 1)) + 1)) + 1)) + 1)), .int .i64 (wrap64 ((wrap64 ((wrap64 ((wrap64 ((wrap64 (x1_1 + 1)) + 1)) + 1)) + 1)) + 1)), .int .i64 (rd_T37 x0_1 x5_1).f6, .int .i64 (rd_T37 x0_1 x5_1).f7, v8, .int .i64 (rd_T37 x0_1 x5_1).f9, .int .i64 (rd_T37 x0_1 x5_1).f10, v11, v12] v8 v11 v12 ((rd_T37 x0_1 x5_1).f8) ((rd_T37 x0_1 x5_1).f11) ((rd_T37 x0_1 x5_1).f12)) := ⟨by rw [hw]; exact HM.out.store 5 (by decide) (.int .i64 (wrap64 ((wrap64 ((wrap64 ((wrap64 ((wrap64 (x1_1 + 1)) + 1)) + 1)) + 1)) + 1))) rfl⟩; clear HM hw; have HM := n0_; clear n0_; (try clear hx5 hf5); have hx6 : w25.cell? ⟨go5, (x5_1 : Int).toNat * 13 + 6, none⟩ = some (.int .i64 (rd_T37 x0_1 x5_1).f6) := HM.out.cell 6 _ rfl; have hf6 : w25.frozen? ⟨go5, (x5_1 : Int).toNat * 13 + 6, none⟩ = false := HM.out.frozen _) | ((with_reducible refine gate_store (t := 3) (p := 58) rfl ?_); refine store_event (t := 3) (p := 58) (v := ?vo_w26) (w1 := (w25.setCell ⟨go5, (x5_1 : Int).toNat * 13 + 6, none⟩ (.int .i64 (wrap64 ((wrap64 ((wrap64 ((wrap64 ((wrap64 ((wrap64 (x1_1 + 1)) + 1)) + 1)) + 1)) + 1)) + 1))))) ?hg ?ho ?hn ?hr ?_; (case ho => rfl); (case hg => rfl); (case hn => rfl); (case hr => first | (go_simp; done) | (go_simp; rfl)); intro w26 hw; have n0_ : Aside0 (laws_markNodeS.Mid w0 w w26 P0_ go5 x0_1.length co8 x0_1 (x5_1 : Int) oki [.int .i64 x1_1, .int .i64 (wrap64 (x1_1 + 1)), .int .i64 (wrap64 ((wrap64 (x1_1 + 1)) + 1)), .int .i64 (wrap64 ((wrap64 ((wrap64 (x1_1 + 1)) + 1)) + 1)), .int .i64 (wrap64 ((wrap64 ((wrap64 ((wrap64 (x1_1 + 1)) + 1)) + 1)) + 1)), .int .i64 (wrap64 ((wrap64 ((wrap64 ((wrap64 ((wrap64 (x1_1 + 1)) + 1)) + 1)) + 1)) + 1)), .int .i64 (wrap64 ((wrap64 ((wrap64 ((wrap64 ((wrap64 ((wrap64 (x1_1 + 1)) + 1)) + 1)) + 1)) + 1)) + 1)), .int .i64 (rd_T37 x0_1 x5_1).f7, v8, .int .i64 (rd_T37 x0_1 x5_1).f9, .int .i64 (rd_T37 x0_1 x5_1).f10, v11, v12] v8 v11 v12 ((rd_T37 x0_1 x5_1).f8) ((rd_T37 x0_1 x5_1).f11) ((rd_T37 x0_1 x5_1).f12)) := ⟨by rw [hw]; exact HM.out.store 6 (by decide) (.int .i64 (wrap64 ((wrap64 ((wrap64 ((wrap64 ((wrap64 ((wrap64 (x1_1 + 1)) + 1)) + 1)) + 1)) + 1)) + 1))) rfl⟩; clear HM hw; have HM := n0_; clear n0_; (try clear hx6 hf6); have hx7 : w26.cell? ⟨go5, (x5_1 : Int).toNat * 13 + 7, none⟩ = some (.int .i64 (rd_T37 x0_1 x5_1).f7) := HM.out.cell 7 _ rfl; have hf7 : w26.frozen? ⟨go5, (x5_1 : Int).toNat * 13 + 7, none⟩ = false := HM.out.frozen _) | ((with_reducible refine gate_store (t := 3) (p := 65) rfl ?_); refine store_event (t := 3) (p := 65) (v := ?vo_w27) (w1 := (w26.setCell ⟨go5, (x5_1 : Int).toNat * 13 + 7, none⟩ (.int .i64 (wrap64 ((wrap64 ((wrap64 ((wrap64 ((wrap64 ((wrap64 ((wrap64 (x1_1 + 1)) + 1)) + 1)) + 1)) + 1)) + 1)) + 1))))) ?hg ?ho ?hn ?hr ?_; (case ho => rfl); (case hg => rfl); (case hn => rfl); (case hr => first | (go_simp; done) | (go_simp; rfl)); intro w27 hw; have n0_ : Aside0 (laws_markNodeS.Mid w0 w w27 P0_ go5 x0_1.length co8 x0_1 (x5_1 : Int) oki [.int .i64 x1_1, .int .i64 (wrap64 (x1_1 + 1)), .int .i64 (wrap64 ((wrap64 (x1_1 + 1)) + 1)), .int .i64 (wrap64 ((wrap64 ((wrap64 (x1_1 + 1)) + 1)) + 1)), .int .i64 (wrap64 ((wrap64 ((wrap64 ((wrap64 (x1_1 + 1)) + 1)) + 1)) + 1)), .int .i64 (wrap64 ((wrap64 ((wrap64 ((wrap64 ((wrap64 (x1_1 + 1)) + 1)) + 1)) + 1)) + 1)), .int .i64 (wrap64 ((wrap64 ((wrap64 ((wrap64 ((wrap64 ((wrap64 (x1_1 + 1)) + 1)) + 1)) + 1)) + 1)) + 1)), .int .i64 (wrap64 ((wrap64 ((wrap64 ((wrap64 ((wrap64 ((wrap64 ((wrap64 (x1_1 + 1)) + 1)) + 1)) + 1)) + 1)) + 1)) + 1)), v8, .int .i64 (rd_T37 x0_1 x5_1).f9, .int .i64 (rd_T37 x0_1 x5_1).f10, v11, v12] v8 v11 v12 ((rd_T37 x0_1 x5_1).f8) ((rd_T37 x0_1 x5_1).f11) ((rd_T37 x0_1 x5_1).f12)) := ⟨by rw [hw]; exact HM.out.store 7 (by decide) (.int .i64 (wrap64 ((wrap64 ((wrap64 ((wrap64 ((wrap64 ((wrap64 ((wrap64 (x1_1 + 1)) + 1)) + 1)) + 1)) + 1)) + 1)) + 1))) rfl⟩; clear HM hw; have HM := n0_; clear n0_; (try clear hx7 hf7); have hx8 : w27.cell? ⟨go5, (x5_1 : Int).toNat * 13 + 8, none⟩ = some (v8) := HM.out.cell 8 _ rfl; have hf8 : w27.frozen? ⟨go5, (x5_1 : Int).toNat * 13 + 8, none⟩ = false := HM.out.frozen _) | ((with_reducible refine gate_callee (f := 38) rfl ?_); refine goesL_ (some 74) rfl rfl Try.func38 (by kernel_rfl) rfl #[v8, .int .i64 (wrap64 ((wrap64 ((wrap64 ((wrap64 ((wrap64 ((wrap64 ((wrap64 ((wrap64 (x1_1 + 1)) + 1)) + 1)) + 1)) + 1)) + 1)) + 1)) + 1))] rfl (by (try simp only [List.map_toArray, List.map_cons, List.map_nil]); first | done | rfl) ?_; refine (laws_markIntS.calls _ (fun k_ => some k_ = v8.ownBlock) v8 ((rd_T37 x0_1 x5_1).f8) (wrap64 ((wrap64 ((wrap64 ((wrap64 ((wrap64 ((wrap64 ((wrap64 ((wrap64 (x1_1 + 1)) + 1)) + 1)) + 1)) + 1)) + 1)) + 1)) + 1)) b1 b2 w0 _ HM.out.below HM.out.r8 A1.out).mono ?_; rintro e w28 ⟨rfl, ho_, hb_, hk_⟩; refine ⟨_, rfl, ?_⟩; have n0_ : Aside0 (laws_markNodeS.Mid w0 w w28 P0_ go5 x0_1.length co8 x0_1 (x5_1 : Int) oki [.int .i64 x1_1, .int .i64 (wrap64 (x1_1 + 1)), .int .i64 (wrap64 ((wrap64 (x1_1 + 1)) + 1)), .int .i64 (wrap64 ((wrap64 ((wrap64 (x1_1 + 1)) + 1)) + 1)), .int .i64 (wrap64 ((wrap64 ((wrap64 ((wrap64 (x1_1 + 1)) + 1)) + 1)) + 1)), .int .i64 (wrap64 ((wrap64 ((wrap64 ((wrap64 ((wrap64 (x1_1 + 1)) + 1)) + 1)) + 1)) + 1)), .int .i64 (wrap64 ((wrap64 ((wrap64 ((wrap64 ((wrap64 ((wrap64 (x1_1 + 1)) + 1)) + 1)) + 1)) + 1)) + 1)), .int .i64 (wrap64 ((wrap64 ((wrap64 ((wrap64 ((wrap64 ((wrap64 ((wrap64 (x1_1 + 1)) + 1)) + 1)) + 1)) + 1)) + 1)) + 1)), v8, .int .i64 (rd_T37 x0_1 x5_1).f9, .int .i64 (rd_T37 x0_1 x5_1).f10, v11, v12] v8 v11 v12 b2 ((rd_T37 x0_1 x5_1).f11) ((rd_T37 x0_1 x5_1).f12)) := ⟨HM.out.mark8 ho_ hb_ hk_⟩; clear HM ho_ hb_ hk_; have HM := n0_; clear n0_; (try clear hx8 hf8); have hx9 : w28.cell? ⟨go5, (x5_1 : Int).toNat * 13 + 9, none⟩ = some (.int .i64 (rd_T37 x0_1 x5_1).f9) := HM.out.cell 9 _ rfl; have hf9 : w28.frozen? ⟨go5, (x5_1 : Int).toNat * 13 + 9, none⟩ = false := HM.out.frozen _) | ((with_reducible refine gate_store (t := 3) (p := 79) rfl ?_); refine store_event (t := 3) (p := 79) (v := ?vo_w29) (w1 := (w28.setCell ⟨go5, (x5_1 : Int).toNat * 13 + 9, none⟩ (.int .i64 b1))) ?hg ?ho ?hn ?hr ?_; (case ho => rfl); (case hg => rfl); (case hn => rfl); (case hr => first | (go_simp; done) | (go_simp; rfl)); intro w29 hw; have n0_ : Aside0 (laws_markNodeS.Mid w0 w w29 P0_ go5 x0_1.length co8 x0_1 (x5_1 : Int) oki [.int .i64 x1_1, .int .i64 (wrap64 (x1_1 + 1)), .int .i64 (wrap64 ((wrap64 (x1_1 + 1)) + 1)), .int .i64 (wrap64 ((wrap64 ((wrap64 (x1_1 + 1)) + 1)) + 1)), .int .i64 (wrap64 ((wrap64 ((wrap64 ((wrap64 (x1_1 + 1)) + 1)) + 1)) + 1)), .int .i64 (wrap64 ((wrap64 ((wrap64 ((wrap64 ((wrap64 (x1_1 + 1)) + 1)) + 1)) + 1)) + 1)), .int .i64 (wrap64 ((wrap64 ((wrap64 ((wrap64 ((wrap64 ((wrap64 (x1_1 + 1)) + 1)) + 1)) + 1)) + 1)) + 1)), .int .i64 (wrap64 ((wrap64 ((wrap64 ((wrap64 ((wrap64 ((wrap64 ((wrap64 (x1_1 + 1)) + 1)) + 1)) + 1)) + 1)) + 1)) + 1)), v8, .int .i64 b1, .int .i64 (rd_T37 x0_1 x5_1).f10, v11, v12] v8 v11 v12 b2 ((rd_T37 x0_1 x5_1).f11) ((rd_T37 x0_1 x5_1).f12)) := ⟨by rw [hw]; exact HM.out.store 9 (by decide) (.int .i64 b1) rfl⟩; clear HM hw; have HM := n0_; clear n0_; (try clear hx9 hf9); have hx10 : w29.cell? ⟨go5, (x5_1 : Int).toNat * 13 + 10, none⟩ = some (.int .i64 (rd_T37 x0_1 x5_1).f10) := HM.out.cell 10 _ rfl; have hf10 : w29.frozen? ⟨go5, (x5_1 : Int).toNat * 13 + 10, none⟩ = false := HM.out.frozen _) | ((with_reducible refine gate_store (t := 3) (p := 86) rfl ?_); refine store_event (t := 3) (p := 86) (v := ?vo_w30) (w1 := (w29.setCell ⟨go5, (x5_1 : Int).toNat * 13 + 10, none⟩ (.int .i64 (wrap64 (b1 + 1))))) ?hg ?ho ?hn ?hr ?_; (case ho => rfl); (case hg => rfl); (case hn => rfl); (case hr => first | (go_simp; done) | (go_simp; rfl)); intro w30 hw; have n0_ : Aside0 (laws_markNodeS.Mid w0 w w30 P0_ go5 x0_1.length co8 x0_1 (x5_1 : Int) oki [.int .i64 x1_1, .int .i64 (wrap64 (x1_1 + 1)), .int .i64 (wrap64 ((wrap64 (x1_1 + 1)) + 1)), .int .i64 (wrap64 ((wrap64 ((wrap64 (x1_1 + 1)) + 1)) + 1)), .int .i64 (wrap64 ((wrap64 ((wrap64 ((wrap64 (x1_1 + 1)) + 1)) + 1)) + 1)), .int .i64 (wrap64 ((wrap64 ((wrap64 ((wrap64 ((wrap64 (x1_1 + 1)) + 1)) + 1)) + 1)) + 1)), .int .i64 (wrap64 ((wrap64 ((wrap64 ((wrap64 ((wrap64 ((wrap64 (x1_1 + 1)) + 1)) + 1)) + 1)) + 1)) + 1)), .int .i64 (wrap64 ((wrap64 ((wrap64 ((wrap64 ((wrap64 ((wrap64 ((wrap64 (x1_1 + 1)) + 1)) + 1)) + 1)) + 1)) + 1)) + 1)), v8, .int .i64 b1, .int .i64 (wrap64 (b1 + 1)), v11, v12] v8 v11 v12 b2 ((rd_T37 x0_1 x5_1).f11) ((rd_T37 x0_1 x5_1).f12)) := ⟨by rw [hw]; exact HM.out.store 10 (by decide) (.int .i64 (wrap64 (b1 + 1))) rfl⟩; clear HM hw; have HM := n0_; clear n0_; (try clear hx10 hf10); have hx11 : w30.cell? ⟨go5, (x5_1 : Int).toNat * 13 + 11, none⟩ = some (v11) := HM.out.cell 11 _ rfl; have hf11 : w30.frozen? ⟨go5, (x5_1 : Int).toNat * 13 + 11, none⟩ = false := HM.out.frozen _) | ((with_reducible refine gate_callee (f := 91) rfl ?_); refine goesL_ (some 95) rfl rfl Try.func91 (by kernel_rfl) rfl #[v11, .int .i64 (wrap64 ((wrap64 (b1 + 1)) + 1))] rfl (by (try simp only [List.map_toArray, List.map_cons, List.map_nil]); first | done | rfl) ?_; refine (laws_markThingS.calls _ (fun k_ => some k_ = v11.ownBlock) v11 ((rd_T37 x0_1 x5_1).f11) (wrap64 ((wrap64 (b1 + 1)) + 1)) c1 c2 w0 _ HM.out.below HM.out.r11 A2.out).mono ?_; rintro e w31 ⟨rfl, ho_, hb_, hk_⟩; refine ⟨_, rfl, ?_⟩; have n0_ : Aside0 (laws_markNodeS.Mid w0 w w31 P0_ go5 x0_1.length co8 x0_1 (x5_1 : Int) oki [.int .i64 x1_1, .int .i64 (wrap64 (x1_1 + 1)), .int .i64 (wrap64 ((wrap64 (x1_1 + 1)) + 1)), .int .i64 (wrap64 ((wrap64 ((wrap64 (x1_1 + 1)) + 1)) + 1)), .int .i64 (wrap64 ((wrap64 ((wrap64 ((wrap64 (x1_1 + 1)) + 1)) + 1)) + 1)), .int .i64 (wrap64 ((wrap64 ((wrap64 ((wrap64 ((wrap64 (x1_1 + 1)) + 1)) + 1)) + 1)) + 1)), .int .i64 (wrap64 ((wrap64 ((wrap64 ((wrap64 ((wrap64 ((wrap64 (x1_1 + 1)) + 1)) + 1)) + 1)) + 1)) + 1)), .int .i64 (wrap64 ((wrap64 ((wrap64 ((wrap64 ((wrap64 ((wrap64 ((wrap64 (x1_1 + 1)) + 1)) + 1)) + 1)) + 1)) + 1)) + 1)), v8, .int .i64 b1, .int .i64 (wrap64 (b1 + 1)), v11, v12] v8 v11 v12 b2 c2 ((rd_T37 x0_1 x5_1).f12)) := ⟨HM.out.mark11 ho_ hb_ hk_⟩; clear HM ho_ hb_ hk_; have HM := n0_; clear n0_; (try clear hx11 hf11); have hx12 : w31.cell? ⟨go5, (x5_1 : Int).toNat * 13 + 12, none⟩ = some (v12) := HM.out.cell 12 _ rfl; have hf12 : w31.frozen? ⟨go5, (x5_1 : Int).toNat * 13 + 12, none⟩ = false := HM.out.frozen _) | ((with_reducible refine gate_callee (f := 38) rfl ?_); refine goesL_ (some 102) rfl rfl Try.func38 (by kernel_rfl) rfl #[v12, .int .i64 c1] rfl (by (try simp only [List.map_toArray, List.map_cons, List.map_nil]); first | done | rfl) ?_; refine (laws_markIntS.calls _ (fun k_ => some k_ = v12.ownBlock) v12 ((rd_T37 x0_1 x5_1).f12) c1 d1 d2 w0 _ HM.out.below HM.out.r12 A3.out).mono ?_; rintro e w32 ⟨rfl, ho_, hb_, hk_⟩; refine ⟨_, rfl, ?_⟩; have n0_ : Aside0 (laws_markNodeS.Mid w0 w w32 P0_ go5 x0_1.length co8 x0_1 (x5_1 : Int) oki [.int .i64 x1_1, .int .i64 (wrap64 (x1_1 + 1)), .int .i64 (wrap64 ((wrap64 (x1_1 + 1)) + 1)), .int .i64 (wrap64 ((wrap64 ((wrap64 (x1_1 + 1)) + 1)) + 1)), .int .i64 (wrap64 ((wrap64 ((wrap64 ((wrap64 (x1_1 + 1)) + 1)) + 1)) + 1)), .int .i64 (wrap64 ((wrap64 ((wrap64 ((wrap64 ((wrap64 (x1_1 + 1)) + 1)) + 1)) + 1)) + 1)), .int .i64 (wrap64 ((wrap64 ((wrap64 ((wrap64 ((wrap64 ((wrap64 (x1_1 + 1)) + 1)) + 1)) + 1)) + 1)) + 1)), .int .i64 (wrap64 ((wrap64 ((wrap64 ((wrap64 ((wrap64 ((wrap64 ((wrap64 (x1_1 + 1)) + 1)) + 1)) + 1)) + 1)) + 1)) + 1)), v8, .int .i64 b1, .int .i64 (wrap64 (b1 + 1)), v11, v12] v8 v11 v12 b2 c2 d2) := ⟨HM.out.mark12 ho_ hb_ hk_⟩; clear HM ho_ hb_ hk_; have HM := n0_; clear n0_; (try clear hx12 hf12); skip))
          have HM2 := Aside0.mk (laws_markNodeS.Mid.back (x' := (⟨x1_1, wrap64 (x1_1 + 1), wrap64 ((wrap64 (x1_1 + 1)) + 1), wrap64 ((wrap64 ((wrap64 (x1_1 + 1)) + 1)) + 1), wrap64 ((wrap64 ((wrap64 ((wrap64 (x1_1 + 1)) + 1)) + 1)) + 1), wrap64 ((wrap64 ((wrap64 ((wrap64 ((wrap64 (x1_1 + 1)) + 1)) + 1)) + 1)) + 1), wrap64 ((wrap64 ((wrap64 ((wrap64 ((wrap64 ((wrap64 (x1_1 + 1)) + 1)) + 1)) + 1)) + 1)) + 1), wrap64 ((wrap64 ((wrap64 ((wrap64 ((wrap64 ((wrap64 ((wrap64 (x1_1 + 1)) + 1)) + 1)) + 1)) + 1)) + 1)) + 1), b2, b1, wrap64 (b1 + 1), c2, d2⟩ : S37)) HM.out)
          go_roundg k1
          case measure => have := HK1.out; omega
          case rel => exact ⟨_, d1, (wrap64 (x5_1 + 1)), (by first | rfl | (simp; done) | (simp [*]; done)), (by first | rfl | (simp; done) | (simp [*]; done)), H', ⟨by have := HK1.out; omega⟩, ⟨by (with_reducible repeat (first | apply Kd.S_alloc | apply Kd.S_drewN | apply Kd.S_drew)); exact HM2.out⟩, ⟨by repeat (first | (with_reducible first | exact HM.out.kept | apply Kept.alloc | apply Kept.drewN | apply Kept.drew) | exact HM.out.kept)⟩, ⟨by repeat (first | (with_reducible first | exact HM.out.below | apply below_alloc | apply pw_below_drewN | apply below_drew1) | exact HM.out.below)⟩⟩
        · rw [if_neg c4] at H
          exact absurd H (by simp)
      · rw [if_neg c3] at H
        have c3b0 : decide (x5_1 < (x0_1.length : Int)) = false := decide_eq_false c3
        clear c3
        simp only [Option.some.injEq, Prod.mk.injEq] at H
        obtain ⟨rfl, rfl⟩ := H
        obtain ⟨Ao15, co15, eo15⟩ := Kd.R_slice (Kd.S_R HO_0.out)
        subst eo15
        go_wp2
        go_ret
        exact ⟨by first | rfl | (simp [errW_none, errW_some] <;> rfl) | (simp [*, errW_none, errW_some] <;> rfl), by (with_reducible repeat (first | apply Kd.S_alloc | apply Kd.S_drewN | apply Kd.S_drew)); exact HO_0.out, by repeat (first | (with_reducible first | exact HB.out | apply below_alloc | apply pw_below_drewN | apply below_drew1) | exact HB.out), by repeat (first | (with_reducible first | exact HK.out | apply Kept.alloc | apply Kept.drewN | apply Kept.drew) | exact HK.out)⟩

/-! ### laws_heldIntS: function 39 -/
def laws_heldIntS.l0 : Nat → List Int → Int → Int → Option (Int)
  | 0, _, _, _ => none
  | k + 1, x0, x1, x5 => if x5 < (x0.length : Int) then (if 0 ≤ x5 then (if (rd x0 x5) = x1 then (laws_heldIntS.l0 k x0 (wrap64 (x1 + 1)) (wrap64 (x5 + 1))) else (some (-1))) else (none)) else (some x1)
def laws_heldIntS.f (k : Nat) (l0 : List Int) (a1 : Int) : Option (Int) := laws_heldIntS.l0 k l0 a1 0
theorem laws_heldIntS.mono_l : ∀ k, (∀ y0 y1 y2, LeO (laws_heldIntS.l0 k y0 y1 y2) (laws_heldIntS.l0 (k + 1) y0 y1 y2))
  | 0 => fun _ _ _ r h => by simp [laws_heldIntS.l0] at h
  | k + 1 => by
    have ih0 := laws_heldIntS.mono_l k
    · intro y0 y1 y2
      unfold laws_heldIntS.l0
      repeat' first
      | (with_reducible exact ih0 _ _ _)
      | (with_reducible exact LeO.refl _)
      | (with_reducible exact LeO.none _)
      | (with_reducible refine LeO.ite ?_ ?_)
      | (with_reducible refine LeO.bind ?_ (fun _ => ?_))
      | exact ih0 _ _ _
      | exact LeO.none _
      | refine LeO.ite ?_ ?_
      | refine LeO.bind ?_ (fun _ => ?_)
theorem laws_heldIntS.mono : ∀ a0 a1 k, LeO (laws_heldIntS.f k a0 a1) (laws_heldIntS.f (k + 1) a0 a1) := by
  intro a0 a1 k
  have ih0 := laws_heldIntS.mono_l k
  unfold laws_heldIntS.f
  repeat' first
      | (with_reducible exact ih0 _ _ _)
      | (with_reducible exact LeO.refl _)
      | (with_reducible exact LeO.none _)
      | (with_reducible refine LeO.ite ?_ ?_)
      | (with_reducible refine LeO.bind ?_ (fun _ => ?_))
      | exact ih0 _ _ _
      | exact LeO.none _
      | refine LeO.ite ?_ ?_
      | refine LeO.bind ?_ (fun _ => ?_)
set_option maxHeartbeats 8000000 in
set_option maxRecDepth 100000 in
theorem laws_heldIntS.calls (k : Nat) (A0 : Option Addr) (c0 : Nat) (l0 : List Int) (a1 : Int) (r : Int) (w : World) (hr0 : Kd.C (Kd.int .i64) w A0 l0.length l0) (hc0 : l0.length ≤ c0) (h : laws_heldIntS.f k l0 a1 = some r) :
    Calls Try.prog 39 #[.slice A0 l0.length c0, .int .i64 a1] w fun e w' => e = .returned (.int .i64 r) ∧ Drawn0 w w' := by
  have HR0 := Aside0.mk hr0
  have HC0 := Aside0.mk hc0
  clear hr0 hc0
  have H : (laws_heldIntS.l0 k l0 a1 0) = some r := h
  clear h
  have H' := Aside0.mk H
  clear H
  go_enter Try.func39, Try.ntmps39
  go_wp2
  go_loopg [1, 5] k (fun kq v1 v5 w' => ∃ (x1_1 : Int) (x5_1 : Int), v1 = .int .i64 x1_1 ∧ v5 = .int .i64 x5_1 ∧ Aside0 (laws_heldIntS.l0 kq l0 x1_1 x5_1 = some r) ∧ Aside0 (kq ≤ k) ∧ Drawn0 w w')
  case atStart => exact ⟨(a1), (0), (by first | rfl | (simp; done) | (simp [*]; done)), (by first | rfl | (simp; done) | (simp [*]; done)), H', ⟨Nat.le_refl _⟩, by repeat (first | exact Drawn0.refl _ | apply Drawn0.step)⟩
  case round =>
    clear H'
    try clear p2
    obtain ⟨x1_1, x5_1, rfl, rfl, HA, HK1, ⟨m1, rfl⟩⟩ := hrel
    cases gk with
    | zero => exact absurd HA.out (by simp [laws_heldIntS.l0])
    | succ k1 =>
      have H := HA.out
      clear HA
      simp only [laws_heldIntS.l0] at H
      by_cases c3 : x5_1 < (l0.length : Int)
      · rw [if_pos c3] at H
        have c3b0 : decide (x5_1 < (l0.length : Int)) = true := decide_eq_true c3
        clear c3
        by_cases c4 : 0 ≤ x5_1
        · rw [if_pos c4] at H
          have c4b0 : decide (0 ≤ x5_1) = true := decide_eq_true c4
          clear c4
          by_cases c5 : (rd l0 x5_1) = x1_1
          · rw [if_pos c5] at H
            have c5b0 : ((rd l0 x5_1) == x1_1) = true := beq_iff_eq.mpr c5
            have c5b1 : ((rd l0 x5_1) != x1_1) = false := bne_eq_false_iff_eq.mpr c5
            clear c5
            have H' := Aside0.mk H
            clear H
            have p178 : 0 ≤ (x5_1 : Int) := of_decide_eq_true (by first | (with_reducible assumption) | assumption)
            have q178 : x5_1 < (l0.length : Int) := of_decide_eq_true (by first | (with_reducible assumption) | assumption)
            obtain ⟨ad178, e178, hx178_0⟩ := Kd.at_int HR0.out x5_1 p178 q178
            cases e178
            replace p178 := eq_true p178
            replace q178 := eq_true q178
            go_wp2
            go_roundg k1
            case measure => have := HK1.out; omega
            case rel => exact ⟨(wrap64 (x1_1 + 1)), (wrap64 (x5_1 + 1)), (by first | rfl | (simp; done) | (simp [*]; done)), (by first | rfl | (simp; done) | (simp [*]; done)), H', ⟨by have := HK1.out; omega⟩, by repeat (first | exact Drawn0.refl _ | apply Drawn0.step)⟩
          · rw [if_neg c5] at H
            have c5b0 : ((rd l0 x5_1) == x1_1) = false := beq_eq_false_iff_ne.mpr c5
            have c5b1 : ((rd l0 x5_1) != x1_1) = true := bne_iff_ne.mpr c5
            obtain rfl := Option.some.inj H
            have p178 : 0 ≤ (x5_1 : Int) := of_decide_eq_true (by first | (with_reducible assumption) | assumption)
            have q178 : x5_1 < (l0.length : Int) := of_decide_eq_true (by first | (with_reducible assumption) | assumption)
            obtain ⟨ad178, e178, hx178_0⟩ := Kd.at_int HR0.out x5_1 p178 q178
            cases e178
            replace p178 := eq_true p178
            replace q178 := eq_true q178
            go_wp2
            go_ret
            exact ⟨by first | rfl | (simp; done) | (simp [*]; done), by repeat (first | exact Drawn0.refl _ | apply Drawn0.step)⟩
        · rw [if_neg c4] at H
          exact absurd H (by simp)
      · rw [if_neg c3] at H
        have c3b0 : decide (x5_1 < (l0.length : Int)) = false := decide_eq_false c3
        clear c3
        obtain rfl := Option.some.inj H
        go_wp2
        go_ret
        exact ⟨by first | rfl | (simp; done) | (simp [*]; done), by repeat (first | exact Drawn0.refl _ | apply Drawn0.step)⟩

/-! ### laws_heldThingS: function 97 -/
def laws_heldThingS.l0 : Nat → List (S84) → Int → Int → Option (Int)
  | 0, _, _, _ => none
  | k + 1, x0, x1, x5 => if x5 < (x0.length : Int) then (if 0 ≤ x5 then (if ((rd_T84 x0 x5).f0) = x1 then (if ((rd_T84 x0 x5).f1) = (wrap64 (x1 + 1)) then (if ((rd_T84 x0 x5).f2) = (wrap64 ((wrap64 (x1 + 1)) + 1)) then (laws_heldThingS.l0 k x0 (wrap64 ((wrap64 ((wrap64 (x1 + 1)) + 1)) + 1)) (wrap64 (x5 + 1))) else (some (-1))) else (some (-1))) else (some (-1))) else (none)) else (some x1)
def laws_heldThingS.f (k : Nat) (l0 : List (S84)) (a1 : Int) : Option (Int) := laws_heldThingS.l0 k l0 a1 0
theorem laws_heldThingS.mono_l : ∀ k, (∀ y0 y1 y2, LeO (laws_heldThingS.l0 k y0 y1 y2) (laws_heldThingS.l0 (k + 1) y0 y1 y2))
  | 0 => fun _ _ _ r h => by simp [laws_heldThingS.l0] at h
  | k + 1 => by
    have ih0 := laws_heldThingS.mono_l k
    · intro y0 y1 y2
      unfold laws_heldThingS.l0
      repeat' first
      | (with_reducible exact ih0 _ _ _)
      | (with_reducible exact LeO.refl _)
      | (with_reducible exact LeO.none _)
      | (with_reducible refine LeO.ite ?_ ?_)
      | (with_reducible refine LeO.bind ?_ (fun _ => ?_))
      | exact ih0 _ _ _
      | exact LeO.none _
      | refine LeO.ite ?_ ?_
      | refine LeO.bind ?_ (fun _ => ?_)
theorem laws_heldThingS.mono : ∀ a0 a1 k, LeO (laws_heldThingS.f k a0 a1) (laws_heldThingS.f (k + 1) a0 a1) := by
  intro a0 a1 k
  have ih0 := laws_heldThingS.mono_l k
  unfold laws_heldThingS.f
  repeat' first
      | (with_reducible exact ih0 _ _ _)
      | (with_reducible exact LeO.refl _)
      | (with_reducible exact LeO.none _)
      | (with_reducible refine LeO.ite ?_ ?_)
      | (with_reducible refine LeO.bind ?_ (fun _ => ?_))
      | exact ih0 _ _ _
      | exact LeO.none _
      | refine LeO.ite ?_ ?_
      | refine LeO.bind ?_ (fun _ => ?_)
set_option maxHeartbeats 8000000 in
set_option maxRecDepth 100000 in
theorem laws_heldThingS.calls (k : Nat) (A0 : Option Addr) (c0 : Nat) (l0 : List (S84)) (a1 : Int) (r : Int) (w : World) (hr0 : Kd.C k84 w A0 l0.length l0) (hc0 : l0.length ≤ c0) (h : laws_heldThingS.f k l0 a1 = some r) :
    Calls Try.prog 97 #[.slice A0 l0.length c0, .int .i64 a1] w fun e w' => e = .returned (.int .i64 r) ∧ Drawn0 w w' := by
  have HR0 := Aside0.mk hr0
  have HC0 := Aside0.mk hc0
  clear hr0 hc0
  have H : (laws_heldThingS.l0 k l0 a1 0) = some r := h
  clear h
  have H' := Aside0.mk H
  clear H
  go_enter Try.func97, Try.ntmps97
  go_wp2
  go_loopg [1, 5] k (fun kq v1 v5 w' => ∃ (x1_1 : Int) (x5_1 : Int), v1 = .int .i64 x1_1 ∧ v5 = .int .i64 x5_1 ∧ Aside0 (laws_heldThingS.l0 kq l0 x1_1 x5_1 = some r) ∧ Aside0 (kq ≤ k) ∧ Drawn0 w w')
  case atStart => exact ⟨(a1), (0), (by first | rfl | (simp; done) | (simp [*]; done)), (by first | rfl | (simp; done) | (simp [*]; done)), H', ⟨Nat.le_refl _⟩, by repeat (first | exact Drawn0.refl _ | apply Drawn0.step)⟩
  case round =>
    clear H'
    try clear p2
    obtain ⟨x1_1, x5_1, rfl, rfl, HA, HK1, ⟨m1, rfl⟩⟩ := hrel
    cases gk with
    | zero => exact absurd HA.out (by simp [laws_heldThingS.l0])
    | succ k1 =>
      have H := HA.out
      clear HA
      simp only [laws_heldThingS.l0] at H
      by_cases c3 : x5_1 < (l0.length : Int)
      · rw [if_pos c3] at H
        have c3b0 : decide (x5_1 < (l0.length : Int)) = true := decide_eq_true c3
        clear c3
        by_cases c4 : 0 ≤ x5_1
        · rw [if_pos c4] at H
          have c4b0 : decide (0 ≤ x5_1) = true := decide_eq_true c4
          clear c4
          by_cases c5 : ((rd_T84 l0 x5_1).f0) = x1_1
          · rw [if_pos c5] at H
            have c5b0 : (((rd_T84 l0 x5_1).f0) == x1_1) = true := beq_iff_eq.mpr c5
            have c5b1 : (((rd_T84 l0 x5_1).f0) != x1_1) = false := bne_eq_false_iff_eq.mpr c5
            clear c5
            by_cases c6 : ((rd_T84 l0 x5_1).f1) = (wrap64 (x1_1 + 1))
            · rw [if_pos c6] at H
              have c6b0 : (((rd_T84 l0 x5_1).f1) == (wrap64 (x1_1 + 1))) = true := beq_iff_eq.mpr c6
              have c6b1 : (((rd_T84 l0 x5_1).f1) != (wrap64 (x1_1 + 1))) = false := bne_eq_false_iff_eq.mpr c6
              clear c6
              by_cases c7 : ((rd_T84 l0 x5_1).f2) = (wrap64 ((wrap64 (x1_1 + 1)) + 1))
              · rw [if_pos c7] at H
                have c7b0 : (((rd_T84 l0 x5_1).f2) == (wrap64 ((wrap64 (x1_1 + 1)) + 1))) = true := beq_iff_eq.mpr c7
                have c7b1 : (((rd_T84 l0 x5_1).f2) != (wrap64 ((wrap64 (x1_1 + 1)) + 1))) = false := bne_eq_false_iff_eq.mpr c7
                clear c7
                have H' := Aside0.mk H
                clear H
                have p179 : 0 ≤ (x5_1 : Int) := of_decide_eq_true (by first | (with_reducible assumption) | assumption)
                have q179 : x5_1 < (l0.length : Int) := of_decide_eq_true (by first | (with_reducible assumption) | assumption)
                obtain ⟨ad179, e179, hx179_0, hx179_1, hx179_2⟩ := at_T84 HR0.out x5_1 p179 q179
                cases e179
                replace p179 := eq_true p179
                replace q179 := eq_true q179
                have p180 : 0 ≤ (x5_1 : Int) := of_decide_eq_true (by first | (with_reducible assumption) | assumption)
                have q180 : x5_1 < (l0.length : Int) := of_decide_eq_true (by first | (with_reducible assumption) | assumption)
                obtain ⟨ad180, e180, hx180_0, hx180_1, hx180_2⟩ := at_T84 HR0.out x5_1 p180 q180
                obtain rfl : ad179 = ad180 := (by injection e180)
                replace p180 := eq_true p180
                replace q180 := eq_true q180
                have p181 : 0 ≤ (x5_1 : Int) := of_decide_eq_true (by first | (with_reducible assumption) | assumption)
                have q181 : x5_1 < (l0.length : Int) := of_decide_eq_true (by first | (with_reducible assumption) | assumption)
                obtain ⟨ad181, e181, hx181_0, hx181_1, hx181_2⟩ := at_T84 HR0.out x5_1 p181 q181
                obtain rfl : ad179 = ad181 := (by injection e181)
                replace p181 := eq_true p181
                replace q181 := eq_true q181
                go_wp2
                go_roundg k1
                case measure => have := HK1.out; omega
                case rel => exact ⟨(wrap64 ((wrap64 ((wrap64 (x1_1 + 1)) + 1)) + 1)), (wrap64 (x5_1 + 1)), (by first | rfl | (simp; done) | (simp [*]; done)), (by first | rfl | (simp; done) | (simp [*]; done)), H', ⟨by have := HK1.out; omega⟩, by repeat (first | exact Drawn0.refl _ | apply Drawn0.step)⟩
              · rw [if_neg c7] at H
                have c7b0 : (((rd_T84 l0 x5_1).f2) == (wrap64 ((wrap64 (x1_1 + 1)) + 1))) = false := beq_eq_false_iff_ne.mpr c7
                have c7b1 : (((rd_T84 l0 x5_1).f2) != (wrap64 ((wrap64 (x1_1 + 1)) + 1))) = true := bne_iff_ne.mpr c7
                obtain rfl := Option.some.inj H
                have p179 : 0 ≤ (x5_1 : Int) := of_decide_eq_true (by first | (with_reducible assumption) | assumption)
                have q179 : x5_1 < (l0.length : Int) := of_decide_eq_true (by first | (with_reducible assumption) | assumption)
                obtain ⟨ad179, e179, hx179_0, hx179_1, hx179_2⟩ := at_T84 HR0.out x5_1 p179 q179
                cases e179
                replace p179 := eq_true p179
                replace q179 := eq_true q179
                have p180 : 0 ≤ (x5_1 : Int) := of_decide_eq_true (by first | (with_reducible assumption) | assumption)
                have q180 : x5_1 < (l0.length : Int) := of_decide_eq_true (by first | (with_reducible assumption) | assumption)
                obtain ⟨ad180, e180, hx180_0, hx180_1, hx180_2⟩ := at_T84 HR0.out x5_1 p180 q180
                obtain rfl : ad179 = ad180 := (by injection e180)
                replace p180 := eq_true p180
                replace q180 := eq_true q180
                have p181 : 0 ≤ (x5_1 : Int) := of_decide_eq_true (by first | (with_reducible assumption) | assumption)
                have q181 : x5_1 < (l0.length : Int) := of_decide_eq_true (by first | (with_reducible assumption) | assumption)
                obtain ⟨ad181, e181, hx181_0, hx181_1, hx181_2⟩ := at_T84 HR0.out x5_1 p181 q181
                obtain rfl : ad179 = ad181 := (by injection e181)
                replace p181 := eq_true p181
                replace q181 := eq_true q181
                go_wp2
                go_ret
                exact ⟨by first | rfl | (simp; done) | (simp [*]; done), by repeat (first | exact Drawn0.refl _ | apply Drawn0.step)⟩
            · rw [if_neg c6] at H
              have c6b0 : (((rd_T84 l0 x5_1).f1) == (wrap64 (x1_1 + 1))) = false := beq_eq_false_iff_ne.mpr c6
              have c6b1 : (((rd_T84 l0 x5_1).f1) != (wrap64 (x1_1 + 1))) = true := bne_iff_ne.mpr c6
              obtain rfl := Option.some.inj H
              have p179 : 0 ≤ (x5_1 : Int) := of_decide_eq_true (by first | (with_reducible assumption) | assumption)
              have q179 : x5_1 < (l0.length : Int) := of_decide_eq_true (by first | (with_reducible assumption) | assumption)
              obtain ⟨ad179, e179, hx179_0, hx179_1, hx179_2⟩ := at_T84 HR0.out x5_1 p179 q179
              cases e179
              replace p179 := eq_true p179
              replace q179 := eq_true q179
              have p180 : 0 ≤ (x5_1 : Int) := of_decide_eq_true (by first | (with_reducible assumption) | assumption)
              have q180 : x5_1 < (l0.length : Int) := of_decide_eq_true (by first | (with_reducible assumption) | assumption)
              obtain ⟨ad180, e180, hx180_0, hx180_1, hx180_2⟩ := at_T84 HR0.out x5_1 p180 q180
              obtain rfl : ad179 = ad180 := (by injection e180)
              replace p180 := eq_true p180
              replace q180 := eq_true q180
              go_wp2
              go_ret
              exact ⟨by first | rfl | (simp; done) | (simp [*]; done), by repeat (first | exact Drawn0.refl _ | apply Drawn0.step)⟩
          · rw [if_neg c5] at H
            have c5b0 : (((rd_T84 l0 x5_1).f0) == x1_1) = false := beq_eq_false_iff_ne.mpr c5
            have c5b1 : (((rd_T84 l0 x5_1).f0) != x1_1) = true := bne_iff_ne.mpr c5
            obtain rfl := Option.some.inj H
            have p179 : 0 ≤ (x5_1 : Int) := of_decide_eq_true (by first | (with_reducible assumption) | assumption)
            have q179 : x5_1 < (l0.length : Int) := of_decide_eq_true (by first | (with_reducible assumption) | assumption)
            obtain ⟨ad179, e179, hx179_0, hx179_1, hx179_2⟩ := at_T84 HR0.out x5_1 p179 q179
            cases e179
            replace p179 := eq_true p179
            replace q179 := eq_true q179
            go_wp2
            go_ret
            exact ⟨by first | rfl | (simp; done) | (simp [*]; done), by repeat (first | exact Drawn0.refl _ | apply Drawn0.step)⟩
        · rw [if_neg c4] at H
          exact absurd H (by simp)
      · rw [if_neg c3] at H
        have c3b0 : decide (x5_1 < (l0.length : Int)) = false := decide_eq_false c3
        clear c3
        obtain rfl := Option.some.inj H
        go_wp2
        go_ret
        exact ⟨by first | rfl | (simp; done) | (simp [*]; done), by repeat (first | exact Drawn0.refl _ | apply Drawn0.step)⟩

end Go.Proofs.Ytnloeihhimcblaa.QFnExactClear
