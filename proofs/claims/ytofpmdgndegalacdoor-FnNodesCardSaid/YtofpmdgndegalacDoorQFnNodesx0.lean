/- What the functions that the law FnNodes reaches compute, as plain functions, and that the code computes just that (by a program of this session's; the library's functions by hand). No condition. -/
import Derived.Test.YtofpmdgndegalacDoorProg
import Derived.Below
import Derived.Deep.Draws
import Derived.Deep.AppendLies
import Derived.Maps.AppendAt
import Derived.OwnWalk
import Derived.Laws.BytesArg
import Derived.Laws.MakeOwn
import Derived.Laws.OwnMore
import Derived.Deep.OwnRows
import Derived.Tactics
import Derived.Lib.ConvBytes
import Derived.Laws.Slices
import Derived.WalkKit
import Derived.KernelRfl
import Derived.RowKit3
import Derived.Deep.LoopGhost
import Derived.Deep.QuietTactic
import Derived.BigQuiet
import Derived.WideLaws
import Derived.Deep.DeepCutAuto
import Derived.Deep.CutBlock
import Derived.Deep.RegionHeld3
import Derived.Laws.Rows
import Derived.Lib.AppendStr
import Derived.ArgAppend
import Derived.Laws.IdiomCopy
import Derived.OrdersHeld
import Derived.Laws.BitsLemmas
import Derived.RowKit
import Derived.Lib.SliceRun
import Derived.Laws.CopyOwn
import Derived.Test.YtofpmdgndegalacDoorShelf
import Derived.Lib.AppendIntMem
import Derived.Lib.Itoa
import Derived.Lib.ItoaNum
import Derived.Lib.ItoaLen
import Derived.Test.YtofpmdgndegalacDoorVFnNodes
namespace Go.Proofs.YtofpmdgndegalacDoor.QFnNodes
open Go.RowKit Go.Proofs.YtofpmdgndegalacDoorW.PrintWords Go.Proofs.YtofpmdgndegalacDoorW.PrintLast Go.Proofs.YtofpmdgndegalacDoorW.PrintMore
attribute [local go_sem] max2_int min2_int max_two min_two max_three min_three max_four min_four   -- for this text's walks alone
set_option linter.unusedVariables false
set_option linter.unusedSimpArgs false
/-! Short words of this text's own. -/
instance : Coe Int Value := ⟨Value.int .i64⟩
theorem qc3 {w : World} {g : Nat} {t : TypeId} {v0 v1 v2 : Value} (h : w.heap[g]? = some (.cells #[v0, v1, v2] t (0, 0))) : w.cell? ⟨g, 0, none⟩ = some v0 ∧ w.cell? ⟨g, 1, none⟩ = some v1 ∧ w.cell? ⟨g, 2, none⟩ = some v2 := ⟨(blk_cell h 0).trans rfl, (blk_cell h 1).trans rfl, (blk_cell h 2).trans rfl⟩
theorem qf3 {w : World} {g : Nat} {t : TypeId} {cs : Array Value} (h : w.heap[g]? = some (.cells cs t (0, 0))) : w.frozen? ⟨g, 0, none⟩ = false ∧ w.frozen? ⟨g, 1, none⟩ = false ∧ w.frozen? ⟨g, 2, none⟩ = false := ⟨blk_frozen h 0, blk_frozen h 1, blk_frozen h 2⟩
theorem qc6 {w : World} {g : Nat} {t : TypeId} {v0 v1 v2 v3 v4 v5 : Value} (h : w.heap[g]? = some (.cells #[v0, v1, v2, v3, v4, v5] t (0, 0))) : w.cell? ⟨g, 0, none⟩ = some v0 ∧ w.cell? ⟨g, 1, none⟩ = some v1 ∧ w.cell? ⟨g, 2, none⟩ = some v2 ∧ w.cell? ⟨g, 3, none⟩ = some v3 ∧ w.cell? ⟨g, 4, none⟩ = some v4 ∧ w.cell? ⟨g, 5, none⟩ = some v5 := ⟨(blk_cell h 0).trans rfl, (blk_cell h 1).trans rfl, (blk_cell h 2).trans rfl, (blk_cell h 3).trans rfl, (blk_cell h 4).trans rfl, (blk_cell h 5).trans rfl⟩
theorem qf6 {w : World} {g : Nat} {t : TypeId} {cs : Array Value} (h : w.heap[g]? = some (.cells cs t (0, 0))) : w.frozen? ⟨g, 0, none⟩ = false ∧ w.frozen? ⟨g, 1, none⟩ = false ∧ w.frozen? ⟨g, 2, none⟩ = false ∧ w.frozen? ⟨g, 3, none⟩ = false ∧ w.frozen? ⟨g, 4, none⟩ = false ∧ w.frozen? ⟨g, 5, none⟩ = false := ⟨blk_frozen h 0, blk_frozen h 1, blk_frozen h 2, blk_frozen h 3, blk_frozen h 4, blk_frozen h 5⟩
theorem qc13 {w : World} {g : Nat} {t : TypeId} {v0 v1 v2 v3 v4 v5 v6 v7 v8 v9 v10 v11 v12 : Value} (h : w.heap[g]? = some (.cells #[v0, v1, v2, v3, v4, v5, v6, v7, v8, v9, v10, v11, v12] t (0, 0))) : w.cell? ⟨g, 0, none⟩ = some v0 ∧ w.cell? ⟨g, 1, none⟩ = some v1 ∧ w.cell? ⟨g, 2, none⟩ = some v2 ∧ w.cell? ⟨g, 3, none⟩ = some v3 ∧ w.cell? ⟨g, 4, none⟩ = some v4 ∧ w.cell? ⟨g, 5, none⟩ = some v5 ∧ w.cell? ⟨g, 6, none⟩ = some v6 ∧ w.cell? ⟨g, 7, none⟩ = some v7 ∧ w.cell? ⟨g, 8, none⟩ = some v8 ∧ w.cell? ⟨g, 9, none⟩ = some v9 ∧ w.cell? ⟨g, 10, none⟩ = some v10 ∧ w.cell? ⟨g, 11, none⟩ = some v11 ∧ w.cell? ⟨g, 12, none⟩ = some v12 := ⟨(blk_cell h 0).trans rfl, (blk_cell h 1).trans rfl, (blk_cell h 2).trans rfl, (blk_cell h 3).trans rfl, (blk_cell h 4).trans rfl, (blk_cell h 5).trans rfl, (blk_cell h 6).trans rfl, (blk_cell h 7).trans rfl, (blk_cell h 8).trans rfl, (blk_cell h 9).trans rfl, (blk_cell h 10).trans rfl, (blk_cell h 11).trans rfl, (blk_cell h 12).trans rfl⟩
theorem qf13 {w : World} {g : Nat} {t : TypeId} {cs : Array Value} (h : w.heap[g]? = some (.cells cs t (0, 0))) : w.frozen? ⟨g, 0, none⟩ = false ∧ w.frozen? ⟨g, 1, none⟩ = false ∧ w.frozen? ⟨g, 2, none⟩ = false ∧ w.frozen? ⟨g, 3, none⟩ = false ∧ w.frozen? ⟨g, 4, none⟩ = false ∧ w.frozen? ⟨g, 5, none⟩ = false ∧ w.frozen? ⟨g, 6, none⟩ = false ∧ w.frozen? ⟨g, 7, none⟩ = false ∧ w.frozen? ⟨g, 8, none⟩ = false ∧ w.frozen? ⟨g, 9, none⟩ = false ∧ w.frozen? ⟨g, 10, none⟩ = false ∧ w.frozen? ⟨g, 11, none⟩ = false ∧ w.frozen? ⟨g, 12, none⟩ = false := ⟨blk_frozen h 0, blk_frozen h 1, blk_frozen h 2, blk_frozen h 3, blk_frozen h 4, blk_frozen h 5, blk_frozen h 6, blk_frozen h 7, blk_frozen h 8, blk_frozen h 9, blk_frozen h 10, blk_frozen h 11, blk_frozen h 12⟩
theorem q0t {p : Prop} (h : p := by first | exact ⟨(blk_cell ay.out 0).trans rfl, (blk_cell ay.out 1).trans rfl, (blk_cell ay.out 2).trans rfl, (blk_cell ay.out 3).trans rfl, (blk_cell ay.out 4).trans rfl, (blk_cell ay.out 5).trans rfl, (blk_cell aw.out 0).trans rfl, (blk_cell aw.out 1).trans rfl, (blk_cell aw.out 2).trans rfl, (blk_cell aw.out 3).trans rfl, (blk_cell aw.out 4).trans rfl, (blk_cell aw.out 5).trans rfl, (blk_cell aw.out 6).trans rfl, (blk_cell aw.out 7).trans rfl, (blk_cell aw.out 8).trans rfl, (blk_cell aw.out 9).trans rfl, (blk_cell aw.out 10).trans rfl, (blk_cell aw.out 11).trans rfl, (blk_cell aw.out 12).trans rfl, (blk_cell az.out 0).trans rfl, (blk_cell az.out 1).trans rfl, (blk_cell az.out 2).trans rfl, (blk_cell az.out 3).trans rfl, (blk_cell az.out 4).trans rfl, (blk_cell az.out 5).trans rfl, (blk_cell aA.out 0).trans rfl, (blk_cell aA.out 1).trans rfl, (blk_cell aA.out 2).trans rfl, (blk_cell aD.out 0).trans rfl, (blk_cell aD.out 1).trans rfl, (blk_cell aD.out 2).trans rfl, (blk_cell aD.out 3).trans rfl, (blk_cell aD.out 4).trans rfl, (blk_cell aD.out 5).trans rfl, (blk_cell aD.out 6).trans rfl, (blk_cell aD.out 7).trans rfl, (blk_cell aD.out 8).trans rfl, (blk_cell aD.out 9).trans rfl, (blk_cell aD.out 10).trans rfl, (blk_cell aD.out 11).trans rfl, (blk_cell aD.out 12).trans rfl, (blk_cell aE.out 0).trans rfl, (blk_cell aE.out 1).trans rfl, (blk_cell aE.out 2).trans rfl, (blk_cell aE.out 3).trans rfl, (blk_cell aE.out 4).trans rfl, (blk_cell aE.out 5).trans rfl, (blk_cell aE.out 6).trans rfl, (blk_cell aE.out 7).trans rfl, (blk_cell aE.out 8).trans rfl, (blk_cell aE.out 9).trans rfl, (blk_cell aE.out 10).trans rfl, (blk_cell aE.out 11).trans rfl, (blk_cell aE.out 12).trans rfl, (blk_cell aI.out 0).trans rfl, (blk_cell aI.out 1).trans rfl, (blk_cell aI.out 2).trans rfl, (blk_cell aI.out 3).trans rfl, (blk_cell aI.out 4).trans rfl, (blk_cell aI.out 5).trans rfl, (blk_cell aI.out 6).trans rfl, (blk_cell aI.out 7).trans rfl, (blk_cell aI.out 8).trans rfl, (blk_cell aI.out 9).trans rfl, (blk_cell aI.out 10).trans rfl, (blk_cell aI.out 11).trans rfl, (blk_cell aI.out 12).trans rfl⟩ | exact hHeld) : p := h
theorem q1t {p : Prop} (h : p := by first | exact ⟨(blk_cell bt.out 0).trans rfl, (blk_cell bt.out 1).trans rfl, (blk_cell bt.out 2).trans rfl, (blk_cell bt.out 3).trans rfl, (blk_cell bt.out 4).trans rfl, (blk_cell bt.out 5).trans rfl, (blk_cell bt.out 6).trans rfl, (blk_cell bt.out 7).trans rfl, (blk_cell bt.out 8).trans rfl, (blk_cell bt.out 9).trans rfl, (blk_cell bt.out 10).trans rfl, (blk_cell bt.out 11).trans rfl, (blk_cell bt.out 12).trans rfl, (blk_cell cB.out 0).trans rfl, (blk_cell cB.out 1).trans rfl, (blk_cell cB.out 2).trans rfl, (blk_cell cB.out 3).trans rfl, (blk_cell cB.out 4).trans rfl, (blk_cell cB.out 5).trans rfl, (hbt HB hw650_0), (hbt HB hw653_0)⟩ | exact hHeld) : p := h
theorem q2t {p : Prop} (h : p := by first | exact ⟨(blk_cell ay.out 0).trans rfl, (blk_cell ay.out 1).trans rfl, (blk_cell ay.out 2).trans rfl, (blk_cell ay.out 3).trans rfl, (blk_cell ay.out 4).trans rfl, (blk_cell ay.out 5).trans rfl, (blk_cell aw.out 0).trans rfl, (blk_cell aw.out 1).trans rfl, (blk_cell aw.out 2).trans rfl, (blk_cell aw.out 3).trans rfl, (blk_cell aw.out 4).trans rfl, (blk_cell aw.out 5).trans rfl, (blk_cell aw.out 6).trans rfl, (blk_cell aw.out 7).trans rfl, (blk_cell aw.out 8).trans rfl, (blk_cell aw.out 9).trans rfl, (blk_cell aw.out 10).trans rfl, (blk_cell aw.out 11).trans rfl, (blk_cell aw.out 12).trans rfl⟩ | exact hHeld) : p := h
theorem q3t {p : Prop} (h : p := by first | exact ⟨(blk_cell (blk_alloc aV.out _) 0).trans rfl, (blk_cell (blk_alloc aV.out _) 1).trans rfl, (blk_cell (blk_alloc aV.out _) 2).trans rfl, (blk_cell (blk_alloc aV.out _) 3).trans rfl, (blk_cell (blk_alloc aV.out _) 4).trans rfl, (blk_cell (blk_alloc aV.out _) 5).trans rfl, (blk_cell (blk_alloc aV.out _) 6).trans rfl, (blk_cell (blk_alloc aV.out _) 7).trans rfl, (blk_cell (blk_alloc aV.out _) 8).trans rfl, (blk_cell (blk_alloc aV.out _) 9).trans rfl, (blk_cell (blk_alloc aV.out _) 10).trans rfl, (blk_cell (blk_alloc aV.out _) 11).trans rfl, (blk_cell (blk_alloc aV.out _) 12).trans rfl⟩ | exact hHeld) : p := h
theorem q4t {p : Prop} (h : p := by first | exact ⟨(blk_cell aV.out 0).trans rfl, (blk_cell aV.out 1).trans rfl, (blk_cell aV.out 2).trans rfl, (blk_cell aV.out 3).trans rfl, (blk_cell aV.out 4).trans rfl, (blk_cell aV.out 5).trans rfl, (blk_cell aV.out 6).trans rfl, (blk_cell aV.out 7).trans rfl, (blk_cell aV.out 8).trans rfl, (blk_cell aV.out 9).trans rfl, (blk_cell aV.out 10).trans rfl, (blk_cell aV.out 11).trans rfl, (blk_cell aV.out 12).trans rfl⟩ | exact hHeld) : p := h
theorem q5t {p : Prop} (h : p := by first | exact ⟨(blk_cell dq.out 0).trans rfl, (blk_cell dq.out 1).trans rfl, (blk_cell dq.out 2).trans rfl, (blk_cell dq.out 3).trans rfl, (blk_cell dq.out 4).trans rfl, (blk_cell dq.out 5).trans rfl, (blk_cell dq.out 6).trans rfl, (blk_cell dq.out 7).trans rfl, (blk_cell dq.out 8).trans rfl, (blk_cell dq.out 9).trans rfl, (blk_cell dq.out 10).trans rfl, (blk_cell dq.out 11).trans rfl, (blk_cell dq.out 12).trans rfl⟩ | exact hHeld) : p := h
theorem q6t {p : Prop} (h : p := by first | exact ⟨(blk_cell cW.out 0).trans rfl, (blk_cell cW.out 1).trans rfl, (blk_cell cW.out 2).trans rfl, (blk_cell cW.out 3).trans rfl, (blk_cell cW.out 4).trans rfl, (blk_cell cW.out 5).trans rfl, (blk_cell cW.out 6).trans rfl, (blk_cell cW.out 7).trans rfl, (blk_cell cW.out 8).trans rfl, (blk_cell cW.out 9).trans rfl, (blk_cell cW.out 10).trans rfl, (blk_cell cW.out 11).trans rfl, (blk_cell cW.out 12).trans rfl⟩ | exact hHeld) : p := h
theorem q7t {p : Prop} (h : p := by (with_reducible repeat (first | apply Kd.R_alloc | apply Kd.R_drewN | apply Kd.R_drew)); exact (Kd.R_mono (Kd.R_mono (rk3 (rk6 (Kd.R_types (Kd.R_types cC.out az.out (by decide)) aA.out (by decide)) (fun _ hk => hk.1.2))) (fun _ h_ => h_.1)) (fun _ h_ => h_.1))) : p := h
theorem q8t {p : Prop} (h : p := by (with_reducible repeat (first | apply Kd.R_alloc | apply Kd.R_drewN | apply Kd.R_drew)); exact (Kd.R_mono (Kd.R_mono (rk3 (rk6 (Kd.R_types (Kd.R_types cD.out az.out (by decide)) aA.out (by decide)) (fun _ hk => hk.1.2))) (fun _ h_ => h_.1)) (fun _ h_ => h_.1))) : p := h
theorem q9t {p : Prop} (h : p := by first | exact ⟨(blk_cell bu.out 0).trans rfl, (blk_cell bu.out 1).trans rfl, (blk_cell bu.out 2).trans rfl, (blk_cell bu.out 3).trans rfl, (blk_cell bu.out 4).trans rfl, (blk_cell bu.out 5).trans rfl, (blk_cell bk.out 0).trans rfl, (blk_cell bk.out 1).trans rfl, (blk_cell bk.out 2).trans rfl⟩ | exact hHeld) : p := h
theorem q10t {p : Prop} (h : p := by first | exact ⟨(blk_cell bs.out 0).trans rfl, (blk_cell bs.out 1).trans rfl, (blk_cell bs.out 2).trans rfl, (blk_cell bs.out 3).trans rfl, (blk_cell bs.out 4).trans rfl, (blk_cell bs.out 5).trans rfl, (blk_cell bi.out 0).trans rfl, (blk_cell bi.out 1).trans rfl, (blk_cell bi.out 2).trans rfl⟩ | exact hHeld) : p := h
theorem q11t {p : Prop} (h : p := by first | exact ⟨(blk_cell az.out 0).trans rfl, (blk_cell az.out 1).trans rfl, (blk_cell az.out 2).trans rfl, (blk_cell az.out 3).trans rfl, (blk_cell az.out 4).trans rfl, (blk_cell az.out 5).trans rfl, (blk_cell aA.out 0).trans rfl, (blk_cell aA.out 1).trans rfl, (blk_cell aA.out 2).trans rfl⟩ | exact hHeld) : p := h
theorem q12t {p : Prop} (h : p := by rw [hg]; exact Nat.ne_of_lt (IsS69.lt (show IsS69 w0 _ g ah a5 a7 from by repeat (first | (with_reducible first | exact HI0.out | apply IsS69.alloc | apply IsS69.drewN | apply IsS69.drew | apply IsS69.set_1 | apply IsS69.set_2 | refine IsS69.far ?_ (Aside0.out (by with_reducible assumption)) _) | exact HI0.out)))) : p := h
theorem q13t {p : Prop} (h : p := by rw [hg]; exact Nat.ne_of_gt (IsS69.lt (show IsS69 w0 _ g ah a5 a7 from by repeat (first | (with_reducible first | exact HI0.out | apply IsS69.alloc | apply IsS69.drewN | apply IsS69.drew | apply IsS69.set_1 | apply IsS69.set_2 | refine IsS69.far ?_ (Aside0.out (by with_reducible assumption)) _) | exact HI0.out)))) : p := h
theorem q14t {p : Prop} (h : p := by repeat (first | (with_reducible first | exact HK.out | apply KeepBut.set_ | apply keep_drewN | apply keep_drew | apply keep_alloc | refine keep_far ?_ ov.out _ | refine keep_far ?_ qE.out _ | refine keep_far ?_ vH.out _ | refine keep_far ?_ F0.out _) | exact HK.out)) : p := h
theorem q15t {p : Prop} (h : p := by rw [hg]; exact (keep_size (w := w) (g := g) (row := none) (by repeat (first | (with_reducible first | exact HK.out | apply KeepBut.set_ | apply keep_drewN | apply keep_drew | apply keep_alloc | refine keep_far ?_ ov.out _ | refine keep_far ?_ qE.out _) | exact HK.out)))) : p := h
theorem q16t {p : Prop} (h : p := by rw [hg]; exact (below_size (by repeat (first | (with_reducible first | exact HB.out | apply below_alloc | apply pw_below_drewN | apply below_drew1 | refine below_set ?_ (IsS69.ge b7.out) | refine below_set ?_ (Aside0.out (by with_reducible assumption))) | exact HB.out)))) : p := h
theorem q17t {p : Prop} (h : p := by rw [hg]; exact (below_size (by repeat (first | (with_reducible first | exact HB.out | apply below_alloc | apply pw_below_drewN | apply below_drew1 | refine below_set ?_ (IsS69.ge br.out) | refine below_set ?_ (Aside0.out (by with_reducible assumption))) | exact HB.out)))) : p := h
theorem q18t {p : Prop} (h : p := by rw [hg]; exact Nat.ne_of_lt (IsS69.lt (show IsS69 w0 _ g ah a5 a7 from by repeat (first | (with_reducible first | exact HI0.out | apply IsS69.alloc | apply IsS69.drewN | apply IsS69.drew | apply IsS69.set_1 | apply IsS69.set_2) | exact HI0.out)))) : p := h
theorem q19t {p : Prop} (h : p := by rw [hg]; exact Nat.ne_of_gt (IsS69.lt (show IsS69 w0 _ g ah a5 a7 from by repeat (first | (with_reducible first | exact HI0.out | apply IsS69.alloc | apply IsS69.drewN | apply IsS69.drew | apply IsS69.set_1 | apply IsS69.set_2) | exact HI0.out)))) : p := h
theorem q20t {p : Prop} (h : p := by (with_reducible repeat (first | apply Kd.R_alloc | apply Kd.R_drewN | apply Kd.R_drew)); exact (Kd.R_mono (rk13 (Kd.R_types iF.out eQ.out (by decide))) (fun _ h_ => h_.1))) : p := h
theorem q21t {p : Prop} (h : p := by (with_reducible repeat (first | apply Kd.R_alloc | apply Kd.R_drewN | apply Kd.R_drew)); exact (Kd.R_mono (rk13 (Kd.R_types iG.out eQ.out (by decide))) (fun _ h_ => h_.1))) : p := h
theorem q22t {p : Prop} (h : p := by (with_reducible repeat (first | apply Kd.R_alloc | apply Kd.R_drewN | apply Kd.R_drew)); exact (Kd.R_mono (rk13 (Kd.R_types iH.out eQ.out (by decide))) (fun _ h_ => h_.1))) : p := h
theorem q23t {p : Prop} (h : p := by (with_reducible repeat (first | apply Kd.R_alloc | apply Kd.R_drewN | apply Kd.R_drew)); exact (Kd.R_mono (rk13 (Kd.R_types cC.out aD.out (by decide))) (fun _ h_ => h_.1))) : p := h
theorem q24t {p : Prop} (h : p := by (with_reducible repeat (first | apply Kd.R_alloc | apply Kd.R_drewN | apply Kd.R_drew)); exact (Kd.R_mono (rk13 (Kd.R_types cr.out aD.out (by decide))) (fun _ h_ => h_.1))) : p := h
theorem q25t {p : Prop} (h : p := by (with_reducible repeat (first | apply Kd.R_alloc | apply Kd.R_drewN | apply Kd.R_drew)); exact (Kd.R_mono (rk13 (Kd.R_types cD.out aD.out (by decide))) (fun _ h_ => h_.1))) : p := h
theorem q26t {p : Prop} (h : p := by (with_reducible repeat (first | apply Kd.R_alloc | apply Kd.R_drewN | apply Kd.R_drew)); exact (Kd.R_mono (rk13 (Kd.R_types cY.out aD.out (by decide))) (fun _ h_ => h_.1))) : p := h
theorem q27t {p : Prop} (h : p := by (with_reducible repeat (first | apply Kd.R_alloc | apply Kd.R_drewN | apply Kd.R_drew)); exact (Kd.R_mono (rk13 (Kd.R_types cZ.out aD.out (by decide))) (fun _ h_ => h_.1))) : p := h
theorem q28t {p : Prop} (h : p := by (with_reducible repeat (first | apply Kd.R_alloc | apply Kd.R_drewN | apply Kd.R_drew)); exact (Kd.R_mono (rk13 (Kd.R_types da.out aD.out (by decide))) (fun _ h_ => h_.1))) : p := h
theorem q29t {p : Prop} (h : p := by repeat (first | (with_reducible first | exact HK.out | apply KeepBut.set_ | apply keep_drewN | apply keep_drew | apply keep_alloc | refine keep_far ?_ ov.out _ | refine keep_far ?_ qE.out _ | refine keep_far ?_ vH.out _) | exact HK.out)) : p := h
theorem q30t {p : Prop} (h : p := by repeat (first | (with_reducible first | exact HK.out | apply KeepBut.set_ | apply keep_drewN | apply keep_drew | apply keep_alloc | refine keep_far ?_ vI.out _ | refine keep_far ?_ AK.out _ | refine keep_far ?_ F1.out _) | exact HK.out)) : p := h
theorem q31t {p : Prop} (h : p := by rw [hg]; exact (keep_size (w := w) (g := g) (row := none) (by repeat (first | (with_reducible first | exact HK.out | apply KeepBut.set_ | apply keep_drewN | apply keep_drew | apply keep_alloc | refine keep_far ?_ ov.out _) | exact HK.out)))) : p := h
theorem q32t {p : Prop} (h : p := by repeat (first | (with_reducible first | exact b7.out | apply IsS69.alloc | apply IsS69.drewN | apply IsS69.drew | apply IsS69.set_1 | apply IsS69.set_2 | refine IsS69.far ?_ (Aside0.out (by with_reducible assumption)) _) | exact b7.out)) : p := h
theorem q33t {p : Prop} (h : p := by repeat (first | (with_reducible first | exact br.out | apply IsS69.alloc | apply IsS69.drewN | apply IsS69.drew | apply IsS69.set_1 | apply IsS69.set_2 | refine IsS69.far ?_ (Aside0.out (by with_reducible assumption)) _) | exact br.out)) : p := h
theorem q34t {p : Prop} (h : p := by repeat (first | (with_reducible first | exact HB.out | apply below_alloc | apply pw_below_drewN | apply below_drew1 | refine below_set ?_ (IsS69.ge eF.out) | refine below_set ?_ (Aside0.out (by with_reducible assumption))) | exact HB.out)) : p := h
theorem q35t {p : Prop} (h : p := by repeat (first | (with_reducible first | exact HB.out | apply below_alloc | apply pw_below_drewN | apply below_drew1 | refine below_set ?_ (IsS69.ge b7.out) | refine below_set ?_ (Aside0.out (by with_reducible assumption))) | exact HB.out)) : p := h
theorem q36t {p : Prop} (h : p := by repeat (first | (with_reducible first | exact HB.out | apply below_alloc | apply pw_below_drewN | apply below_drew1 | refine below_set ?_ (IsS69.ge lL.out) | refine below_set ?_ (Aside0.out (by with_reducible assumption))) | exact HB.out)) : p := h
theorem q37t {p : Prop} (h : p := by repeat (first | (with_reducible first | exact HB.out | apply below_alloc | apply pw_below_drewN | apply below_drew1 | refine below_set ?_ (IsS69.ge br.out) | refine below_set ?_ (Aside0.out (by with_reducible assumption))) | exact HB.out)) : p := h
theorem q38t {p : Prop} (h : p := by repeat (first | (with_reducible first | exact HB.out | apply below_alloc | apply pw_below_drewN | apply below_drew1 | refine below_set ?_ (IsS69.ge HI0.out) | refine below_set ?_ (Aside0.out (by with_reducible assumption))) | exact HB.out)) : p := h
theorem q39t {p : Prop} (h : p := by repeat (first | (with_reducible first | exact HI0.out | apply IsS69.alloc | apply IsS69.drewN | apply IsS69.drew | apply IsS69.set_1 | apply IsS69.set_2 | refine IsS69.far ?_ (Aside0.out (by with_reducible assumption)) _) | exact HI0.out)) : p := h
theorem q40t {p : Prop} (h : p := by first | exact ⟨(blk_cell cE.out 0).trans rfl, (blk_cell cE.out 1).trans rfl, (blk_cell cE.out 2).trans rfl, (blk_cell cE.out 3).trans rfl, (blk_cell cE.out 4).trans rfl, (blk_cell cE.out 5).trans rfl⟩ | exact hHeld) : p := h
theorem q41t {p : Prop} (h : p := by rw [hg]; exact (below_size (by repeat (first | (with_reducible first | exact HB.out | apply below_alloc | apply pw_below_drewN | apply below_drew1 | refine below_set ?_ (Aside0.out (by with_reducible assumption))) | exact HB.out)))) : p := h
theorem q42t {p : Prop} (h : p := by repeat (first | (with_reducible first | exact HK.out | apply KeepBut.set_ | apply keep_drewN | apply keep_drew | apply keep_alloc | refine keep_far ?_ AL.out _ | refine keep_far ?_ F2.out _) | exact HK.out)) : p := h
theorem q43t {p : Prop} (h : p := by repeat (first | (with_reducible first | exact HK.out | apply KeepBut.set_ | apply keep_drewN | apply keep_drew | apply keep_alloc | refine keep_far ?_ ov.out _ | refine keep_far ?_ qE.out _) | exact HK.out)) : p := h
theorem q44t {p : Prop} (h : p := by repeat (first | (with_reducible first | exact HK.out | apply KeepBut.set_ | apply keep_drewN | apply keep_drew | apply keep_alloc | refine keep_far ?_ vI.out _ | refine keep_far ?_ AK.out _) | exact HK.out)) : p := h
theorem q45t {p : Prop} (h : p := by repeat (first | (with_reducible first | exact HK.out | apply KeepBut.set_ | apply keep_drewN | apply keep_drew | apply keep_alloc | refine keep_far ?_ AM.out _ | refine keep_far ?_ F3.out _) | exact HK.out)) : p := h
theorem q46t {p : Prop} (h : p := by rw [hg]; exact (keep_size (w := w) (g := g) (row := none) (by repeat (first | (with_reducible first | exact HK.out | apply KeepBut.set_ | apply keep_drewN | apply keep_drew | apply keep_alloc) | exact HK.out)))) : p := h
theorem q47t {p : Prop} (h : p := by repeat (first | (with_reducible first | exact HB.out | apply below_alloc | apply pw_below_drewN | apply below_drew1 | refine below_set ?_ (Aside0.out (by with_reducible assumption))) | exact HB.out)) : p := h
theorem q48t {p : Prop} (h : p := by (with_reducible repeat (first | apply Kd.R_alloc | apply Kd.R_drewN | apply Kd.R_drew)); exact Kd.R_mono (rkf (Kd.R_types dJ.out aG.out (by decide))) (fun _ hk => trivial)) : p := h
theorem q49t {p : Prop} (h : p := by repeat (first | (with_reducible first | exact HK.out | apply KeepBut.set_ | apply keep_drewN | apply keep_drew | apply keep_alloc | refine keep_far ?_ F4.out _) | exact HK.out)) : p := h
theorem q50t {p : Prop} (h : p := by repeat (first | (with_reducible first | exact HK.out | apply KeepBut.set_ | apply keep_drewN | apply keep_drew | apply keep_alloc | refine keep_far ?_ AL.out _) | exact HK.out)) : p := h
theorem q51t {p : Prop} (h : p := by repeat (first | (with_reducible first | exact HK.out | apply KeepBut.set_ | apply keep_drewN | apply keep_drew | apply keep_alloc | refine keep_far ?_ ov.out _) | exact HK.out)) : p := h
theorem q52t {p : Prop} (h : p := by repeat (first | (with_reducible first | exact HK.out | apply KeepBut.set_ | apply keep_drewN | apply keep_drew | apply keep_alloc | refine keep_far ?_ vI.out _) | exact HK.out)) : p := h
theorem q53t {p : Prop} (h : p := by repeat (first | (with_reducible first | exact HK.out | apply KeepBut.set_ | apply keep_drewN | apply keep_drew | apply keep_alloc | refine keep_far ?_ AM.out _) | exact HK.out)) : p := h
theorem q54t {p : Prop} (h : p := by (with_reducible repeat (first | apply Kd.R_alloc | apply Kd.R_drewN | apply Kd.R_drew)); exact Kd.R_mono (rkf (Kd.R_types cF.out aV.out (by decide))) (fun _ hk => trivial)) : p := h
theorem q55t {p : Prop} (h : p := by (with_reducible repeat (first | apply Kd.R_alloc | apply Kd.R_drewN | apply Kd.R_drew)); exact Kd.R_mono (rkf (Kd.R_types cl.out aV.out (by decide))) (fun _ hk => hk.1.1)) : p := h
theorem q56t {p : Prop} (h : p := by (with_reducible repeat (first | apply Kd.R_alloc | apply Kd.R_drewN | apply Kd.R_drew)); exact Kd.R_mono (rkf (Kd.R_types cm.out aV.out (by decide))) (fun _ hk => hk.1.1)) : p := h
theorem q57t {p : Prop} (h : p := by (with_reducible repeat (first | apply Kd.R_alloc | apply Kd.R_drewN | apply Kd.R_drew)); exact (Kd.R_mono (rkf (Kd.R_types kA.out dT.out (by decide))) (fun _ h_ => h_.1))) : p := h
theorem q58t {p : Prop} (h : p := by (with_reducible repeat (first | apply Kd.R_alloc | apply Kd.R_drewN | apply Kd.R_drew)); exact Kd.R_mono (rkf (Kd.R_types cl.out aV.out (by decide))) (fun _ hk => hk.1)) : p := h
theorem q59t {p : Prop} (h : p := by (with_reducible repeat (first | apply Kd.R_alloc | apply Kd.R_drewN | apply Kd.R_drew)); exact Kd.R_mono (rkf (Kd.R_types cm.out aV.out (by decide))) (fun _ hk => hk.1)) : p := h
theorem q60t {p : Prop} (h : p := by repeat (first | (with_reducible first | exact HB.out | apply below_alloc | apply pw_below_drewN | apply below_drew1 | refine below_set ?_ (IsS69.ge HI0.out)) | exact HB.out)) : p := h
theorem q61t {p : Prop} (h : p := by repeat (first | (with_reducible first | exact HI0.out | apply IsS69.alloc | apply IsS69.drewN | apply IsS69.drew | apply IsS69.set_1 | apply IsS69.set_2) | exact HI0.out)) : p := h
theorem q62t {p : Prop} (h : p := by rw [hg]; exact (below_size (by repeat (first | (with_reducible first | exact HBW.out | apply below_alloc | apply pw_below_drewN | apply below_drew1) | exact HBW.out)))) : p := h
theorem q63t {p : Prop} (h : p := by rw [hg]; exact (below_size (by repeat (first | (with_reducible first | exact HB.out | apply below_alloc | apply pw_below_drewN | apply below_drew1) | exact HB.out)))) : p := h
theorem q64t {p : Prop} (h : p := by repeat (first | (with_reducible first | exact HK.out | apply KeepBut.set_ | apply keep_drewN | apply keep_drew | apply keep_alloc) | exact HK.out)) : p := h
theorem q65t {p : Prop} (h : p := by first | exact Kd.R_nil _ _ _ _ _ | exact Kd.N_nil _ _ _ _ _ | exact Kd.V_nil _ _ _ _ _ | exact Kd.Q_nil _ _ _ _ _ | exact Kd.S_nil _ _ _ _ _) : p := h
theorem q66t {p : Prop} (h : p := by (try simp only [List.map_toArray, List.map_cons, List.map_nil]); first | done | rfl | (simp only [List.length_drop, List.length_take]; rfl)) : p := h
theorem q67t {p : Prop} (h : p := by repeat (first | (with_reducible first | exact HBW.out | apply below_alloc | apply pw_below_drewN | apply below_drew1) | exact HBW.out)) : p := h
theorem q68t {p : Prop} (h : p := by repeat (first | (with_reducible first | exact HB.out | apply below_alloc | apply pw_below_drewN | apply below_drew1) | exact HB.out)) : p := h
theorem q69t {p : Prop} (h : p := by (with_reducible repeat (first | apply Kd.R_alloc | apply Kd.R_drewN | apply Kd.R_drew)); exact dK.out) : p := h
theorem q70t {p : Prop} (h : p := by (with_reducible repeat (first | apply Kd.R_alloc | apply Kd.R_drewN | apply Kd.R_drew)); exact dE.out) : p := h
theorem q71t {p : Prop} (h : p := by (with_reducible repeat (first | apply Kd.R_alloc | apply Kd.R_drewN | apply Kd.R_drew)); exact dJ.out) : p := h
theorem q72t {p : Prop} (h : p := by (with_reducible repeat (first | apply Kd.R_alloc | apply Kd.R_drewN | apply Kd.R_drew)); exact bv.out) : p := h
theorem q73t {p : Prop} (h : p := by (with_reducible repeat (first | apply Kd.R_alloc | apply Kd.R_drewN | apply Kd.R_drew)); exact bw.out) : p := h
theorem q74t {p : Prop} (h : p := by (with_reducible repeat (first | apply Kd.R_alloc | apply Kd.R_drewN | apply Kd.R_drew)); exact bx.out) : p := h
theorem q75t {p : Prop} (h : p := by (with_reducible repeat (first | apply Kd.R_alloc | apply Kd.R_drewN | apply Kd.R_drew)); exact bL.out) : p := h
theorem q76t {p : Prop} (h : p := by (with_reducible repeat (first | apply Kd.R_alloc | apply Kd.R_drewN | apply Kd.R_drew)); exact bM.out) : p := h
theorem q77t {p : Prop} (h : p := by (with_reducible repeat (first | apply Kd.R_alloc | apply Kd.R_drewN | apply Kd.R_drew)); exact bN.out) : p := h
theorem q78t {p : Prop} (h : p := by (with_reducible repeat (first | apply Kd.R_alloc | apply Kd.R_drewN | apply Kd.R_drew)); exact bO.out) : p := h
theorem q79t {p : Prop} (h : p := by (with_reducible repeat (first | apply Kd.R_alloc | apply Kd.R_drewN | apply Kd.R_drew)); exact bP.out) : p := h
theorem q80t {p : Prop} (h : p := by (with_reducible repeat (first | apply Kd.R_alloc | apply Kd.R_drewN | apply Kd.R_drew)); exact bQ.out) : p := h
theorem q81t {p : Prop} (h : p := by (with_reducible repeat (first | apply Kd.R_alloc | apply Kd.R_drewN | apply Kd.R_drew)); exact bR.out) : p := h
theorem q82t {p : Prop} (h : p := by (with_reducible repeat (first | apply Kd.R_alloc | apply Kd.R_drewN | apply Kd.R_drew)); exact bS.out) : p := h
theorem q83t {p : Prop} (h : p := by (with_reducible repeat (first | apply Kd.R_alloc | apply Kd.R_drewN | apply Kd.R_drew)); exact bT.out) : p := h
theorem q84t {p : Prop} (h : p := by (with_reducible repeat (first | apply Kd.R_alloc | apply Kd.R_drewN | apply Kd.R_drew)); exact jN.out) : p := h
theorem q85t {p : Prop} (h : p := by (with_reducible repeat (first | apply Kd.R_alloc | apply Kd.R_drewN | apply Kd.R_drew)); exact cl.out) : p := h
theorem q86t {p : Prop} (h : p := by (with_reducible repeat (first | apply Kd.R_alloc | apply Kd.R_drewN | apply Kd.R_drew)); exact cF.out) : p := h
theorem q87t {p : Prop} (h : p := by (with_reducible repeat (first | apply Kd.R_alloc | apply Kd.R_drewN | apply Kd.R_drew)); exact cm.out) : p := h
theorem q88t {p : Prop} (h : p := by (with_reducible repeat (first | apply Kd.R_alloc | apply Kd.R_drewN | apply Kd.R_drew)); exact iF.out) : p := h
theorem q89t {p : Prop} (h : p := by (with_reducible repeat (first | apply Kd.R_alloc | apply Kd.R_drewN | apply Kd.R_drew)); exact iG.out) : p := h
theorem q90t {p : Prop} (h : p := by (with_reducible repeat (first | apply Kd.R_alloc | apply Kd.R_drewN | apply Kd.R_drew)); exact iH.out) : p := h
theorem q91t {p : Prop} (h : p := by (with_reducible repeat (first | apply Kd.R_alloc | apply Kd.R_drewN | apply Kd.R_drew)); exact ng.out) : p := h
theorem q92t {p : Prop} (h : p := by (with_reducible repeat (first | apply Kd.R_alloc | apply Kd.R_drewN | apply Kd.R_drew)); exact nh.out) : p := h
theorem q93t {p : Prop} (h : p := by (with_reducible repeat (first | apply Kd.R_alloc | apply Kd.R_drewN | apply Kd.R_drew)); exact lM.out) : p := h
theorem q94t {p : Prop} (h : p := by (with_reducible repeat (first | apply Kd.R_alloc | apply Kd.R_drewN | apply Kd.R_drew)); exact cC.out) : p := h
theorem q95t {p : Prop} (h : p := by (with_reducible repeat (first | apply Kd.R_alloc | apply Kd.R_drewN | apply Kd.R_drew)); exact cr.out) : p := h
theorem q96t {p : Prop} (h : p := by (with_reducible repeat (first | apply Kd.R_alloc | apply Kd.R_drewN | apply Kd.R_drew)); exact cD.out) : p := h
theorem q97t {p : Prop} (h : p := by (with_reducible repeat (first | apply Kd.R_alloc | apply Kd.R_drewN | apply Kd.R_drew)); exact cY.out) : p := h
theorem q98t {p : Prop} (h : p := by (with_reducible repeat (first | apply Kd.R_alloc | apply Kd.R_drewN | apply Kd.R_drew)); exact cZ.out) : p := h
theorem q99t {p : Prop} (h : p := by (with_reducible repeat (first | apply Kd.R_alloc | apply Kd.R_drewN | apply Kd.R_drew)); exact da.out) : p := h
theorem q100t {p : Prop} (h : p := by (with_reducible repeat (first | apply Kd.R_alloc | apply Kd.R_drewN | apply Kd.R_drew)); exact dU.out) : p := h
theorem q101t {p : Prop} (h : p := by (with_reducible repeat (first | apply Kd.R_alloc | apply Kd.R_drewN | apply Kd.R_drew)); exact dV.out) : p := h
theorem q102t {p : Prop} (h : p := by (with_reducible repeat (first | apply Kd.R_alloc | apply Kd.R_drewN | apply Kd.R_drew)); exact dW.out) : p := h
theorem q103t {p : Prop} (h : p := by (with_reducible repeat (first | apply Kd.R_alloc | apply Kd.R_drewN | apply Kd.R_drew)); exact dX.out) : p := h
theorem q104t {p : Prop} (h : p := by (with_reducible repeat (first | apply Kd.R_alloc | apply Kd.R_drewN | apply Kd.R_drew)); exact dY.out) : p := h
theorem q105t {p : Prop} (h : p := by (with_reducible repeat (first | apply Kd.R_alloc | apply Kd.R_drewN | apply Kd.R_drew)); exact dZ.out) : p := h
theorem q106t {p : Prop} (h : p := by (with_reducible repeat (first | apply Kd.R_alloc | apply Kd.R_drewN | apply Kd.R_drew)); exact pt.out) : p := h
theorem q107t {p : Prop} (h : p := by (with_reducible repeat (first | apply Kd.R_alloc | apply Kd.R_drewN | apply Kd.R_drew)); exact pu.out) : p := h
theorem q108t {p : Prop} (h : p := by (with_reducible repeat (first | apply Kd.R_alloc | apply Kd.R_drewN | apply Kd.R_drew)); exact ek.out) : p := h
theorem q109t {p : Prop} (h : p := by (with_reducible repeat (first | apply Kd.R_alloc | apply Kd.R_drewN | apply Kd.R_drew)); exact el.out) : p := h
theorem q110t {p : Prop} (h : p := by (with_reducible repeat (first | apply Kd.R_alloc | apply Kd.R_drewN | apply Kd.R_drew)); exact em.out) : p := h
theorem q111t {p : Prop} (h : p := by (with_reducible repeat (first | apply Kd.R_alloc | apply Kd.R_drewN | apply Kd.R_drew)); exact fc.out) : p := h
theorem q112t {p : Prop} (h : p := by (with_reducible repeat (first | apply Kd.R_alloc | apply Kd.R_drewN | apply Kd.R_drew)); exact fd.out) : p := h
theorem q113t {p : Prop} (h : p := by (with_reducible repeat (first | apply Kd.R_alloc | apply Kd.R_drewN | apply Kd.R_drew)); exact fe.out) : p := h
theorem q114t {p : Prop} (h : p := by first | rfl | (simp [errW_none, errW_some] <;> rfl) | (simp [*, errW_none, errW_some] <;> rfl)) : p := h
theorem q115t {p : Prop} (h : p := by have := gD.out; have := HK2.out; first | omega | exact Nat.le_refl _) : p := h
theorem q116t {p : Prop} (h : p := by repeat (first | exact Drawn0.refl _ | apply Drawn0.step)) : p := h
theorem q117t {p : Prop} (h : p := by have := gD.out; first | omega | exact Nat.le_refl _) : p := h
theorem q118t {p : Prop} (h : p := by first | (with_reducible assumption) | assumption) : p := h
theorem q119t {p : Prop} (h : p := by rw [hg]; exact Nat.ne_of_lt (blk_lt (qbk bl))) : p := h
theorem q120t {p : Prop} (h : p := by rw [hg]; exact Nat.ne_of_gt (blk_lt (qbk bl))) : p := h
theorem q121t {p : Prop} (h : p := by first | rfl | (simp; done) | (simp [*]; done)) : p := h
theorem q122t {p : Prop} (h : p := by first | omega | exact Nat.le_refl _) : p := h
theorem q123t {p : Prop} (h : p := by with_reducible assumption) : p := h
theorem q124t {p : Prop} (h : p := by have := HK1.out; omega) : p := h
theorem q125t {p : Prop} (h : p := by decide) : p := h
theorem q126t {p : Prop} (h : p := by simp) : p := h
theorem q127t {p : Prop} (h : p := by rfl) : p := h
/-! Short words for the steps of a region. -/
def bml : Nat → Nat → List Bool
 | 0, _ => []
 | n + 1, m => (m % 2 == 1) :: bml n (m / 2)
def bm (n m : Nat) : Array Bool := ⟨bml n m⟩
theorem hbt {w w' : World} {a : Addr} {v : Value} (HB : Aside0 (Below w.heap.size w w')) (h : w.cell? a = some v) : w'.cell? a = some v := (HB.out.cell (World.block_lt_of_cell? w _ h)).trans h
theorem blk_put2 {w : World} {g i : Nat} {t : TypeId} {u : Value} {cs cs' : Array Value} (h : w.heap[g]? = some (.cells cs t (0, 0))) (e : cs.setIfInBounds i u = cs') : (w.setCell ⟨g, i, none⟩ u).heap[g]? = some (.cells cs' t (0, 0)) := blk_put h i u e
theorem qbk {w0 w : World} {g : Nat} {o o0 : Obj} (_ : Aside0 (w0.heap[g]? = some o0)) (h : w.heap[g]? = some o := by (with_reducible repeat (first | refine blk_drewN ?_ _ | refine blk_drew ?_ | refine blk_alloc ?_ _)); exact Aside0.out q123t) : w.heap[g]? = some o := h
theorem qbp {w0 w : World} {g : Nat} {o o0 : Obj} (_ : Aside0 (w0.heap[g]? = some o0)) (h : w.heap[g]? = some o := by (repeat (first | (with_reducible refine blk_drewN ?_ _) | (with_reducible refine blk_drew ?_) | (with_reducible refine blk_alloc ?_ _) | apply blk_put2)); (exact Aside0.out q123t); all_goals (first | (simp only [List.setIfInBounds_toArray, List.set_cons_zero, List.set_cons_succ]; done) | (simp only [List.setIfInBounds_toArray, List.set_cons_zero, List.set_cons_succ]; rfl) | rfl)) : w.heap[g]? = some o := h
theorem blp {w0 w w1 : World} {g : Nat} {o o0 : Obj} (_ : Aside0 (w0.heap[g]? = some o0)) (hb : Below w.heap.size w w1) (h : w.heap[g]? = some o := by (repeat (first | (with_reducible refine blk_drewN ?_ _) | (with_reducible refine blk_drew ?_) | (with_reducible refine blk_alloc ?_ _) | apply blk_put2)); (exact Aside0.out q123t); all_goals (first | (simp only [List.setIfInBounds_toArray, List.set_cons_zero, List.set_cons_succ]; done) | (simp only [List.setIfInBounds_toArray, List.set_cons_zero, List.set_cons_succ]; rfl) | rfl)) : Aside0 (w1.heap[g]? = some o) := ⟨blk_below h hb⟩
theorem kbp {w0 w w1 : World} {g g' : Nat} {row : Option Nat} {o o0 : Obj} (_ : Aside0 (w0.heap[g]? = some o0)) (hk : KeepBut w w1 g' row) (hg : g ≠ g') (hr : some g ≠ row) (h : w.heap[g]? = some o := by (repeat (first | (with_reducible refine blk_drewN ?_ _) | (with_reducible refine blk_drew ?_) | (with_reducible refine blk_alloc ?_ _) | apply blk_put2)); (exact Aside0.out q123t); all_goals (first | (simp only [List.setIfInBounds_toArray, List.set_cons_zero, List.set_cons_succ]; done) | (simp only [List.setIfInBounds_toArray, List.set_cons_zero, List.set_cons_succ]; rfl) | rfl)) : Aside0 (w1.heap[g]? = some o) := ⟨hk.blk h hg hr⟩
theorem rkf {α : Type} {d : Kd α} {e base : Nat} {ok : Nat → Prop} {w : World} {v : Value} {xs : List α} {p : Addr} {u : Value} (h : d.R e w base ok v xs) (hok : ∀ k, ok k → k ≠ p.block := by exact fun _ hk => hk.2) : d.R e (w.setCell p u) base ok v xs := Kd.R_far h hok u
theorem qbm {w0 w : World} {g : Nat} {o o0 : Obj} (_ : Aside0 (w0.heap[g]? = some o0)) (h : w.heap[g]? = some o := by (repeat (first | (with_reducible refine blk_drewN ?_ _) | (with_reducible refine blk_drew ?_) | (with_reducible refine blk_alloc ?_ _) | (with_reducible apply blk_far; rotate_left; exact Aside0.out (by with_reducible assumption); rotate_right) | (with_reducible apply blk_put2))); (exact Aside0.out (by with_reducible assumption)); all_goals (first | (simp only [List.setIfInBounds_toArray, List.set_cons_zero, List.set_cons_succ]; done) | (simp only [List.setIfInBounds_toArray, List.set_cons_zero, List.set_cons_succ]; rfl) | rfl)) : w.heap[g]? = some o := h
theorem rk13 {α : Type} {d : Kd α} {e base g i0 i1 i2 i3 i4 i5 i6 i7 i8 i9 i10 i11 i12 : Nat} {ok : Nat → Prop} {w : World} {v u0 u1 u2 u3 u4 u5 u6 u7 u8 u9 u10 u11 u12 : Value} {xs : List α} (h : d.R e w base ok v xs) (hok : ∀ k, ok k → k ≠ g := by exact fun _ hk => hk.2) : d.R e (((((((((((((w.setCell ⟨g, i0, none⟩ u0).setCell ⟨g, i1, none⟩ u1).setCell ⟨g, i2, none⟩ u2).setCell ⟨g, i3, none⟩ u3).setCell ⟨g, i4, none⟩ u4).setCell ⟨g, i5, none⟩ u5).setCell ⟨g, i6, none⟩ u6).setCell ⟨g, i7, none⟩ u7).setCell ⟨g, i8, none⟩ u8).setCell ⟨g, i9, none⟩ u9).setCell ⟨g, i10, none⟩ u10).setCell ⟨g, i11, none⟩ u11).setCell ⟨g, i12, none⟩ u12) base ok v xs := rkf (rkf (rkf (rkf (rkf (rkf (rkf (rkf (rkf (rkf (rkf (rkf (rkf h hok) hok) hok) hok) hok) hok) hok) hok) hok) hok) hok) hok) hok
theorem rk6 {α : Type} {d : Kd α} {e base g i0 i1 i2 i3 i4 i5 : Nat} {ok : Nat → Prop} {w : World} {v u0 u1 u2 u3 u4 u5 : Value} {xs : List α} (h : d.R e w base ok v xs) (hok : ∀ k, ok k → k ≠ g := by exact fun _ hk => hk.2) : d.R e ((((((w.setCell ⟨g, i0, none⟩ u0).setCell ⟨g, i1, none⟩ u1).setCell ⟨g, i2, none⟩ u2).setCell ⟨g, i3, none⟩ u3).setCell ⟨g, i4, none⟩ u4).setCell ⟨g, i5, none⟩ u5) base ok v xs := rkf (rkf (rkf (rkf (rkf (rkf h hok) hok) hok) hok) hok) hok
theorem rk3 {α : Type} {d : Kd α} {e base g i0 i1 i2 : Nat} {ok : Nat → Prop} {w : World} {v u0 u1 u2 : Value} {xs : List α} (h : d.R e w base ok v xs) (hok : ∀ k, ok k → k ≠ g := by exact fun _ hk => hk.2) : d.R e (((w.setCell ⟨g, i0, none⟩ u0).setCell ⟨g, i1, none⟩ u1).setCell ⟨g, i2, none⟩ u2) base ok v xs := rkf (rkf (rkf h hok) hok) hok
theorem skf {α : Type} {d : Kd α} {e base : Nat} {ok : Nat → Prop} {w : World} {v : Value} {xs : List α} {p : Addr} {u : Value} (h : d.S e w base ok v xs) (hok : ∀ k, ok k → k ≠ p.block := by exact fun _ hk => hk.2) : d.S e (w.setCell p u) base ok v xs := Kd.S_far h hok u
theorem blb {w0 w w1 : World} {g : Nat} {o : Obj} (_ : Aside0 (w0.heap[g]? = some o)) (hb : Below w.heap.size w w1) (h : w.heap[g]? = some o := by (with_reducible repeat (first | refine blk_drewN ?_ _ | refine blk_drew ?_ | refine blk_alloc ?_ _)); exact Aside0.out q123t) : Aside0 (w1.heap[g]? = some o) := ⟨blk_below h hb⟩
theorem kbb {w0 w w1 : World} {g g' : Nat} {row : Option Nat} {o : Obj} (_ : Aside0 (w0.heap[g]? = some o)) (hk : KeepBut w w1 g' row) (hg : g ≠ g') (hr : some g ≠ row) (h : w.heap[g]? = some o := by (with_reducible repeat (first | refine blk_drewN ?_ _ | refine blk_drew ?_ | refine blk_alloc ?_ _)); exact Aside0.out q123t) : Aside0 (w1.heap[g]? = some o) := ⟨hk.blk h hg hr⟩
theorem gbb {w0 w w1 : World} {g : Nat} {row : Option Nat} {o : Obj} (_ : Aside0 (w0.heap[g]? = some o)) (hg : w.grownBy w1 row) (hne : some g ≠ row) (h : w.heap[g]? = some o := by (with_reducible repeat (first | refine blk_drewN ?_ _ | refine blk_drew ?_ | refine blk_alloc ?_ _)); exact Aside0.out q123t) : Aside0 (w1.heap[g]? = some o) := ⟨blk_grown h hg hne⟩
theorem box_ev {P : Program} {ops : Array Oper} {Q : Exit → Act → World → Prop} {rest : List Oper} {o : Oper} {a : Act} {W : World} (N : Tmp) (cs : Array Value) (t : TypeId) (h : ∀ g, g = W.heap.size → ∀ w1, w1.heap[g]? = some (.cells cs t (0, 0)) → Below W.heap.size W w1 → wpList P ops Q rest (a.put o.dst (.pointer (some ⟨g, 0, none⟩))) w1) (hd : o.dst = some N := by rfl) (hgd : o.guard = none := by rfl) (hrun : (execOp a.eval o).run P W = .ok (.value (.pointer (some ⟨W.heap.size, 0, none⟩))) (W.alloc (.cells cs t (0, 0))) := by first | (go_simp; done) | (go_simp; rfl)) : wpList P ops Q (o :: rest) a W := box_event hgd hd hrun h
section
variable {P : Program} {ops : Array Oper} {Q : Exit → Act → World → Prop} {md : Region.Mode} {S : World → Prop} {ds : List Nat}
theorem pu_ (i : Nat) (N : Option Tmp) {oi : Oper} {v : Value} {fuel : Nat} {l : Array Bool} {a a' : Act} {w : World} (l' : Array Bool) (hc : anyB md ops l l' i = true) (h : wpAnyLast P md ops Q S ds fuel l' a' w) (hi : ops[i]? = some oi := by rfl) (hN : oi.dst = N := by rfl) (hy : Yields P ops oi v a := by exact Or.inl ⟨by rfl, by intro w'; go_simp; with_reducible rfl⟩) (hQ : ∀ c a w, Q (.panic c) (a.put oi.dst v) w → Q (.panic c) a w := by exact fun _ _ _ h => h) (ha : a.put N v = a' := by simp only [Act.put, List.setIfInBounds_toArray, List.set_cons_zero, List.set_cons_succ, i64_w, i32_w]; rfl) : wpAnyLast P md ops Q S ds (fuel + 1) l a w := pure_ l' hi hN hc hQ hy ha h
theorem pn_ (i : Nat) (N : Option Tmp) {oi : Oper} {fuel : Nat} {l : Array Bool} {a a' : Act} {w : World} (l' : Array Bool) (hc : anyB md ops l l' i = true) (h : wpAnyLast P md ops Q S ds fuel l' a' w) (hi : ops[i]? = some oi := by rfl) (hN : oi.dst = N := by rfl) (hy : Yields P ops oi undef a := by exact Or.inr ⟨by rfl, rfl⟩) (hQ : ∀ c a w, Q (.panic c) (a.put oi.dst undef) w → Q (.panic c) a w := by exact fun _ _ _ h => h) (ha : a.put N undef = a' := by simp only [Act.put, List.setIfInBounds_toArray, List.set_cons_zero, List.set_cons_succ, i64_w, i32_w]; rfl) : wpAnyLast P md ops Q S ds (fuel + 1) l a w := pure_ l' hi hN hc hQ hy ha h
end



def errW : Option Int → Value
 | none => .nilIface
 | some c => .iface 0 (.int .i64 c)
theorem errW_none : errW none = .nilIface := rfl
theorem errW_some (c : Int) : errW (some c) = .iface 0 (.int .i64 c) := rfl

theorem info3 : (Tryd.prog.info? 3).map (fun i => (i.zero, i.size, i.bytes)) = some (some (.int .i64 0), 1, 8) := by kernel_rfl
theorem info5 : (Tryd.prog.info? 5).map (fun i => (i.zero, i.size, i.bytes)) = some (some (.int .u8 0), 1, 1) := by kernel_rfl
theorem info9 : (Tryd.prog.info? 9).map (fun i => (i.zero, i.size, i.bytes)) = some (some (.string ⟨#[]⟩), 1, 16) := by kernel_rfl
theorem info33 : (Tryd.prog.info? 33).map (fun i => (i.zero, i.size, i.bytes)) = some (some (.agg #[(.int .i64 0), (.int .i64 0), (.int .i64 0)]), 3, 24) := by kernel_rfl
-- the values' own types
theorem sC {α : Type} {d : Kd α} {w1 w : World} {A : Option Addr} {n : Nat} {xs : List α} (h : d.C w1 A n xs) (f : d.C w1 A n xs → d.C w A n xs := by intro h_; repeat (first | exact h_ | (with_reducible refine Kd.C_alloc ?_ _) | (with_reducible refine Kd.C_drewN ?_ _) | (with_reducible refine Kd.C_drew ?_))) : d.C w A n xs := f h
section
variable {P : Program} {ops : Array Oper} {Q : Exit → Act → World → Prop} {md : Region.Mode} {S : World → Prop} {ds : List Nat}
theorem tk_ (i : Nat) (N : Option Tmp) {oi : Oper} {v : Value} {fuel : Nat} {l : Array Bool} {a a' : Act} {w : World} (l' : Array Bool) (hc : takeB md ops ds l l' i = true) (hS : S w) (h : wpAnyLast P md ops Q S ds fuel l' a' w) (hi : ops[i]? = some oi := by rfl) (hN : oi.dst = N := by rfl) (hy : YieldsIf P ops S oi v a := by exact Or.inl ⟨by rfl, by intro w' hS_; (try dsimp only at hS_); go_split_ands; go_simp; with_reducible rfl⟩) (hQ : ∀ c a w, Q (.panic c) (a.put oi.dst v) w → Q (.panic c) a w := by exact fun _ _ _ h => h) (ha : a.put N v = a' := by simp only [Act.put, List.setIfInBounds_toArray, List.set_cons_zero, List.set_cons_succ, i64_w, i32_w]; rfl) : wpAnyLast P md ops Q S ds (fuel + 1) l a w := take_ l' hi hN hc hQ hy hS ha h
end
theorem am {p : Prop} (h : p) : Aside0 p := ⟨h⟩
theorem bnd {α β : Type} {o : Option α} {f : α → Option β} {r : β} (h : o.bind f = some r) : ∃ a, Aside0 (o = some a) ∧ f a = some r := by obtain ⟨a, h1, h2⟩ := Option.bind_eq_some_iff.mp h; exact ⟨a, ⟨h1⟩, h2⟩
theorem qst {q : Prop} (h : q := by ((try dsimp only); (repeat' (with_reducible apply And.intro)); all_goals (first | exact (blk_cell (Aside0.out q123t) _).trans rfl | with_reducible assumption | assumption))) : q := h
theorem qbf {w0 w : World} {g : Nat} {o o0 : Obj} (_ : Aside0 (w0.heap[g]? = some o0)) (h : w.heap[g]? = some o := by (repeat (first | (with_reducible refine blk_drewN ?_ _) | (with_reducible refine blk_drew ?_) | (with_reducible refine blk_alloc ?_ _) | (with_reducible refine blk_far ?_ (Aside0.out q123t) _))); exact Aside0.out q123t) : w.heap[g]? = some o := h
theorem qcf {q : Prop} (h : q := by (have h_ := hHeld; (try dsimp only at h_); (try dsimp only); go_split_ands; (repeat' (with_reducible apply And.intro)); all_goals (repeat (first | (with_reducible assumption) | refine (cell_far (Aside0.out q123t) _).trans ?_)))) : q := h
section
variable {P : Program} {ops : Array Oper} {Q : Exit → Act → World → Prop} {md : Region.Mode} {S : World → Prop} {ds : List Nat}
theorem pv_ (i : Nat) (N : Tmp) {oi : Oper} {v : Value} {fuel : Nat} {l : Array Bool} {a a' : Act} {w : World} (l' : Array Bool) (h : wpAnyLast P md ops Q S ds fuel l' a' w) (hc : anyB md ops l l' i = true := by exact any_of HT_.out (by kernel_rfl)) (hi : ops[i]? = some oi := by rfl) (hN : oi.dst = some N := by rfl) (hy : Yields P ops oi v a := by exact Or.inl ⟨by rfl, by intro w'; go_simp; with_reducible rfl⟩) (hQ : ∀ c a w, Q (.panic c) (a.put oi.dst v) w → Q (.panic c) a w := by exact fun _ _ _ h => h) (ha : a.put (some N) v = a' := by simp only [Act.put, List.setIfInBounds_toArray, List.set_cons_zero, List.set_cons_succ, i64_w, i32_w]; rfl) : wpAnyLast P md ops Q S ds (fuel + 1) l a w := pure_ l' hi hN hc hQ hy ha h
end
section
variable {P : Program} {ops : Array Oper} {Q : Exit → Act → World → Prop} {md : Region.Mode} {S : World → Prop} {ds : List Nat}
theorem pm_ (i : Nat) (N : Tmp) {oi : Oper} {fuel : Nat} {l : Array Bool} {a a' : Act} {w : World} (l' : Array Bool) (h : wpAnyLast P md ops Q S ds fuel l' a' w) (hc : anyB md ops l l' i = true := by exact any_of HT_.out (by kernel_rfl)) (hi : ops[i]? = some oi := by rfl) (hN : oi.dst = some N := by rfl) (hy : Yields P ops oi undef a := by exact Or.inr ⟨by rfl, rfl⟩) (hQ : ∀ c a w, Q (.panic c) (a.put oi.dst undef) w → Q (.panic c) a w := by exact fun _ _ _ h => h) (ha : a.put (some N) undef = a' := by simp only [Act.put, List.setIfInBounds_toArray, List.set_cons_zero, List.set_cons_succ, i64_w, i32_w]; rfl) : wpAnyLast P md ops Q S ds (fuel + 1) l a w := pure_ l' hi hN hc hQ hy ha h
end
section
variable {P : Program} {ops : Array Oper} {Q : Exit → Act → World → Prop} {md : Region.Mode} {S : World → Prop} {ds : List Nat}
theorem tv_ (i : Nat) (N : Tmp) {oi : Oper} {v : Value} {fuel : Nat} {l : Array Bool} {a a' : Act} {w : World} (l' : Array Bool) (h : wpAnyLast P md ops Q S ds fuel l' a' w) (hc : takeB md ops ds l l' i = true := by exact take_ofW HT_.out HW_.out (by kernel_rfl)) (hS : S w := by exact hHeld) (hi : ops[i]? = some oi := by rfl) (hN : oi.dst = some N := by rfl) (hy : YieldsIf P ops S oi v a := by exact Or.inl ⟨by rfl, by intro w' hS_; (try dsimp only at hS_); go_split_ands; go_simp; with_reducible rfl⟩) (hQ : ∀ c a w, Q (.panic c) (a.put oi.dst v) w → Q (.panic c) a w := by exact fun _ _ _ h => h) (ha : a.put (some N) v = a' := by simp only [Act.put, List.setIfInBounds_toArray, List.set_cons_zero, List.set_cons_succ, i64_w, i32_w]; rfl) : wpAnyLast P md ops Q S ds (fuel + 1) l a w := take_ l' hi hN hc hQ hy hS ha h
end
/-! #### struct type 33 -/
structure S33 where
 f0 : Int
 f1 : Int
 f2 : Int
def z33 : S33 := ⟨(0 : Int), (0 : Int), (0 : Int)⟩
def k33 : Kd S33 := Kd.iso (Kd.pair (Kd.int .i64) (Kd.pair (Kd.int .i64) (Kd.int .i64))) (fun x : S33 => (x.f0, x.f1, x.f2))
theorem k33_open {w : World} {x : S33} {cs : List Value} (h : k33.K w x cs) : cs = [.int .i64 x.f0, .int .i64 x.f1, .int .i64 x.f2] := by
 obtain ⟨_, _, rfl, rfl, ⟨_, _, rfl, rfl, rfl⟩⟩ := h
 exact rfl
theorem k33_openM {w : World} {base : Nat} {ok : Nat → Prop} {x : S33} {cs : List Value} (h : k33.M w base ok x cs) : cs = [.int .i64 x.f0, .int .i64 x.f1, .int .i64 x.f2] := by
 obtain ⟨_, _, rfl, rfl, ⟨_, _, rfl, rfl, rfl⟩⟩ := h
 exact rfl
theorem k33_mk (w : World) (x : S33)  : k33.K w x [.int .i64 x.f0, .int .i64 x.f1, .int .i64 x.f2] := ⟨[.int .i64 x.f0], [.int .i64 x.f1, .int .i64 x.f2], rfl, rfl, ⟨[.int .i64 x.f1], [.int .i64 x.f2], rfl, rfl, rfl⟩⟩
theorem k33_mkM (w : World) (base : Nat) (ok : Nat → Prop) (x : S33)  : k33.M w base ok x [.int .i64 x.f0, .int .i64 x.f1, .int .i64 x.f2] := ⟨[.int .i64 x.f0], [.int .i64 x.f1, .int .i64 x.f2], rfl, rfl, ⟨[.int .i64 x.f1], [.int .i64 x.f2], rfl, rfl, rfl⟩⟩
def rd_T33 (xs : List S33) (i : Int) : S33 := xs.getD i.toNat z33
theorem at_T33 {w : World} {A : Option Addr} {n : Nat} {xs : List S33} (h : Kd.C k33 w A n xs) (i : Int) (h0 : 0 ≤ i) (h1 : i < n) : ∃ ad , A = some ad ∧ w.cell? (ad.add (i.toNat * 3)) = some (.int .i64 (rd_T33 xs i).f0) ∧ w.cell? ⟨(ad.add (i.toNat * 3)).block, (ad.add (i.toNat * 3)).off + 1, none⟩ = some (.int .i64 (rd_T33 xs i).f1) ∧ w.cell? ⟨(ad.add (i.toNat * 3)).block, (ad.add (i.toNat * 3)).off + 2, none⟩ = some (.int .i64 (rd_T33 xs i).f2) := by
 obtain ⟨ad, c, e, _, hK, hc0⟩ := Kd.C_get h z33 i h0 h1
 have hc : ∀ j u, c[j]? = some u → w.cell? (ad.add (i.toNat * 3 + j)) = some u := hc0
 obtain rfl := k33_open hK
 exact ⟨ad, e, hc 0 _ rfl, (by rw [← add_field _ _ 1 (by omega)]; exact hc 1 _ rfl), (by rw [← add_field _ _ 2 (by omega)]; exact hc 2 _ rfl)⟩

end Go.Proofs.YtofpmdgndegalacDoor.QFnNodes
