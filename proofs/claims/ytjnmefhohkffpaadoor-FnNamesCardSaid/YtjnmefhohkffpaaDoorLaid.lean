/- What the rows' listed variables give: the table of the library's powers of ten and its two errors read as their initialisers lay them; and one world in which all that is listed lies so. No condition. -/
import Derived.Test.YtjnmefhohkffpaaDoorRows
import Derived.Lib.LaidTab
import Derived.Lib.ItoaMem
import Derived.LaidLaws
import Derived.Deep.DeepLaidRun
import Derived.Stop.LaidErr
import Derived.Shelf.Strconv.Itoa3
import Derived.KernelRfl
namespace Go.Proofs.YtjnmefhohkffpaaDoorLaid
open Go Go.RowKit
open Go.Proofs.YtjnmefhohkffpaaDoor
theorem gPow : Tryd.prog.globalNamed "internal/strconv.uint64pow10" = some 2 := by kernel_rfl
theorem gPowType : (Tryd.prog.globals[2]?).map (·.type) = some 156 := by kernel_rfl
theorem gSyn : Tryd.prog.globalNamed "strconv.ErrSyntax" = some 0 := by kernel_rfl
theorem gSynType : (Tryd.prog.globals[0]?).map (·.type) = some 92 := by kernel_rfl
theorem gRng : Tryd.prog.globalNamed "strconv.ErrRange" = some 1 := by kernel_rfl
theorem gRngType : (Tryd.prog.globals[1]?).map (·.type) = some 92 := by kernel_rfl
theorem cells141 : Tryd.prog.cellsOf 141 = 1 := by kernel_rfl
theorem cells156 : Tryd.prog.cellsOf 156 = 20 := by kernel_rfl
theorem cells164 : Tryd.prog.cellsOf 164 = 1 := by kernel_rfl
theorem cells9 : Tryd.prog.cellsOf 9 = 1 := by kernel_rfl
theorem star : "*" ++ "errors.errorString" = "*errors.errorString" := by decide
theorem row162 (u : TypeId) (h : Tryd.prog.typeName? 3 u = some "*errors.errorString") : u = 162 :=
  typeName_ptr_named (nm := "errors.errorString") (by rw [star]; kernel_rfl) (by kernel_rfl) (by decide) u (by rw [star]; exact h)
theorem pow_is : (Rows.laid_internal_strconv_uint64pow10 : DataW Unit) = Lib.tabData .u64 Lib.pow10Tab := by kernel_rfl
theorem tab_of {r : List (String × DataW Unit)} {W : World} (h : laidMet Tryd.prog (("internal/strconv.uint64pow10", Rows.laid_internal_strconv_uint64pow10) :: r) W) : Lib.TabIs Tryd.prog W "internal/strconv.uint64pow10" .u64 Lib.pow10Tab := by
  rw [pow_is] at h
  exact Lib.tabIs_of_head gPow gPowType Tryd.underlying156 Tryd.underlying141 cells141 cells156 h
theorem syn_of {r : List (String × DataW Unit)} {W : World} (h : laidMet Tryd.prog (("strconv.ErrSyntax", Rows.laid_strconv_ErrSyntax) :: r) W) : ∃ t p, W.var? Tryd.prog "strconv.ErrSyntax" = some #[.iface t p] := by
  obtain ⟨a0, s0, hv0, -, -, -⟩ := laid_sentinel h gSyn gSynType Tryd.underlying92 row162 Tryd.underlying162 Tryd.underlying164 rfl rfl Tryd.underlying9 cells164 cells9
  exact ⟨_, _, hv0⟩
theorem rng_of {r : List (String × DataW Unit)} {W : World} (h : laidMet Tryd.prog (("strconv.ErrRange", Rows.laid_strconv_ErrRange) :: r) W) : ∃ t p, W.var? Tryd.prog "strconv.ErrRange" = some #[.iface t p] := by
  obtain ⟨a0, s0, hv0, -, -, -⟩ := laid_sentinel h gRng gRngType Tryd.underlying92 row162 Tryd.underlying162 Tryd.underlying164 rfl rfl Tryd.underlying9 cells164 cells9
  exact ⟨_, _, hv0⟩

/-! ### One start that fits -/
def cellsIn : Nat → DataW Unit → List Value
  | 0, _ => []
  | _ + 1, .lit (.int k z) => [.int k z]
  | n + 1, .agg l => l.flatMap (cellsIn n)
  | _ + 1, _ => []
abbrev synS : ByteArray := { data := #[105, 110, 118, 97, 108, 105, 100, 32, 115, 121, 110, 116, 97, 120] }
abbrev rngS : ByteArray := { data := #[118, 97, 108, 117, 101, 32, 111, 117, 116, 32, 111, 102, 32, 114, 97, 110, 103, 101] }
noncomputable def low : Nat := (World.holding Tryd.prog default ⟨#[], #[], []⟩).heap.size
def put (h : Array Obj) (g : Nat) (cs : Array Value) : Array Obj := h.modify g fun
  | .cells _ t frozen => .cells cs t frozen
  | o => o
noncomputable def laidWorld (os : Os) : World :=
  let w0 := World.holding Tryd.prog os ⟨#[.cells #[.string synS] 164, .cells #[.string rngS] 164], #[], []⟩
  { w0 with heap := put (put (put (put (put (put (put w0.heap 0 #[.iface 162 (.pointer (some ⟨low, 0, none⟩))]) 1 #[.iface 162 (.pointer (some ⟨low + 1, 0, none⟩))]) 2 (cellsIn 3 Rows.laid_internal_strconv_uint64pow10).toArray) 4 (cellsIn 3 Rows.laid_math_bits_deBruijn32tab).toArray) 5 (cellsIn 3 Rows.laid_math_bits_deBruijn64tab).toArray) 6 (cellsIn 3 Rows.laid_unicode_utf8_first).toArray) 7 (cellsIn 3 Rows.laid_unicode_utf8_acceptRanges).toArray }
abbrev laid3 : List (String × DataW Unit) := [("math/bits.deBruijn32tab", Rows.laid_math_bits_deBruijn32tab), ("math/bits.deBruijn64tab", Rows.laid_math_bits_deBruijn64tab), ("internal/strconv.uint64pow10", Rows.laid_internal_strconv_uint64pow10)]
abbrev laid5 : List (String × DataW Unit) := [("math/bits.deBruijn32tab", Rows.laid_math_bits_deBruijn32tab), ("math/bits.deBruijn64tab", Rows.laid_math_bits_deBruijn64tab), ("internal/strconv.uint64pow10", Rows.laid_internal_strconv_uint64pow10), ("strconv.ErrRange", Rows.laid_strconv_ErrRange), ("strconv.ErrSyntax", Rows.laid_strconv_ErrSyntax)]
abbrev laid7 : List (String × DataW Unit) := [("math/bits.deBruijn32tab", Rows.laid_math_bits_deBruijn32tab), ("math/bits.deBruijn64tab", Rows.laid_math_bits_deBruijn64tab), ("internal/strconv.uint64pow10", Rows.laid_internal_strconv_uint64pow10), ("unicode/utf8.acceptRanges", Rows.laid_unicode_utf8_acceptRanges), ("strconv.ErrRange", Rows.laid_strconv_ErrRange), ("strconv.ErrSyntax", Rows.laid_strconv_ErrSyntax), ("unicode/utf8.first", Rows.laid_unicode_utf8_first)]
theorem laid3_met (os : Os) (args : Array Value) : laidMet Tryd.prog laid3 ((laidWorld os).forCall (fun _ _ => 0) ⟨#[], args, []⟩).memory :=
  laidMet_of_run3 8 (by kernel_rfl) (by kernel_rfl) (by kernel_rfl)
theorem laid5_met (os : Os) (args : Array Value) : laidMet Tryd.prog laid5 ((laidWorld os).forCall (fun _ _ => 0) ⟨#[], args, []⟩).memory :=
  laidMet_of_run3 8 (by kernel_rfl) (by kernel_rfl) (by kernel_rfl)
theorem laid7_met (os : Os) (args : Array Value) : laidMet Tryd.prog laid7 ((laidWorld os).forCall (fun _ _ => 0) ⟨#[], args, []⟩).memory :=
  laidMet_of_run3 8 (by kernel_rfl) (by kernel_rfl) (by kernel_rfl)
theorem tab3 {W : World} (h : laidMet Tryd.prog laid3 W) : Lib.TabIs Tryd.prog W "internal/strconv.uint64pow10" .u64 Lib.pow10Tab := tab_of h.tail.tail
theorem tab5 {W : World} (h : laidMet Tryd.prog laid5 W) : Lib.TabIs Tryd.prog W "internal/strconv.uint64pow10" .u64 Lib.pow10Tab ∧ (∃ t p, W.var? Tryd.prog "strconv.ErrSyntax" = some #[.iface t p]) ∧ (∃ t p, W.var? Tryd.prog "strconv.ErrRange" = some #[.iface t p]) :=
  ⟨tab_of h.tail.tail, syn_of h.tail.tail.tail.tail, rng_of h.tail.tail.tail⟩
theorem tab7 {W : World} (h : laidMet Tryd.prog laid7 W) : Lib.TabIs Tryd.prog W "internal/strconv.uint64pow10" .u64 Lib.pow10Tab ∧ (∃ t p, W.var? Tryd.prog "strconv.ErrSyntax" = some #[.iface t p]) ∧ (∃ t p, W.var? Tryd.prog "strconv.ErrRange" = some #[.iface t p]) :=
  ⟨tab_of h.tail.tail, syn_of h.tail.tail.tail.tail.tail, rng_of h.tail.tail.tail.tail⟩
end Go.Proofs.YtjnmefhohkffpaaDoorLaid
