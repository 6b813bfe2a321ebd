/- A contract of the library or of a function, by hand. -/
import Derived.Test.YtajlhhejblpfcaaDoorPPpHH1
import Derived.Test.YtajlhhejblpfcaaDoorRows
import Derived.ProofKit
import Derived.Deep.DeepLaidRun
import Derived.Lib.LaidU8
import Derived.Stop.LaidErr
import Derived.Lib.TrailingZeros
import Derived.Lib.ItoaNum
set_option linter.unusedVariables false
set_option linter.unusedSimpArgs false
namespace Go.Proofs.YtajlhhejblpfcaaDoor.LxTab
open Go Go.RowKit Go.Pv
theorem cells5 : Tryd.prog.cellsOf 5 = 1 := by kernel_rfl
theorem cells90 : Tryd.prog.cellsOf 102 = 1 := by kernel_rfl
theorem cells118 : Tryd.prog.cellsOf 118 = 20 := by kernel_rfl
theorem cells139 : Tryd.prog.cellsOf 129 = 64 := by kernel_rfl
theorem powType : (Tryd.prog.globals[1]?).map (·.type) = some 118 := by kernel_rfl
theorem brType : (Tryd.prog.globals[6]?).map (·.type) = some 129 := by kernel_rfl
theorem brAt : Tryd.prog.globalNamed "math/bits.deBruijn64tab" = some 6 := by kernel_rfl
def bruijn : List Int := List.map (fun (n : Nat) => (n : Int)) Lib.deBruijn64tab
def laidL : List (String × DataW Unit) := [("math/bits.deBruijn32tab", Rows.laid_math_bits_deBruijn32tab), ("math/bits.deBruijn64tab", Lib.tabData .u8 bruijn), ("internal/strconv.uint64pow10", Lib.tabData .u64 Lib.pow10Tab), ("unicode/utf8.acceptRanges", Rows.laid_unicode_utf8_acceptRanges), ("bytes.ErrTooLarge", Rows.laid_bytes_ErrTooLarge), ("unicode/utf8.first", Rows.laid_unicode_utf8_first)]
theorem table {W : World} (h : laidMet Tryd.prog laidL W) : LaidC.L Tryd.prog W := by
  refine ⟨?_, ?_⟩
  · obtain ⟨g, t, cs, fuel, p, hg, ht, hvar, hd⟩ := Lib.laidMet.reads h (n := "internal/strconv.uint64pow10") (.tail _ (.tail _ (.head _)))
    obtain rfl := Option.some.inj (papPowAt.symm.trans hg)
    obtain rfl := Option.some.inj (powType.symm.trans ht)
    unfold Lib.TabIs
    rw [hvar, ← Lib.cells_of_tab Tryd.underlying118 Tryd.underlying102 cells90 cells118 hd]
  · obtain ⟨g, t, cs, fuel, p, hg, ht, hvar, hd⟩ := Lib.laidMet.reads h (n := "math/bits.deBruijn64tab") (.tail _ (.head _))
    obtain rfl := Option.some.inj (brAt.symm.trans hg)
    obtain rfl := Option.some.inj (brType.symm.trans ht)
    have hc := Lib.cells_of_tab Tryd.underlying129 Tryd.underlying5 cells5 cells139 hd
    have hv : W.var? Tryd.prog "math/bits.deBruijn64tab" = some (bruijn.map fun z => Value.int .u8 z).toArray := by rw [hvar, ← hc]
    have h0 := World.var?_cell brAt hv 15
    rw [h0]
    rfl
/-- The values of a list of data. -/
def lits : DataW Unit → Array Value
  | .agg ds => (ds.flatMap fun | .lit (.int k n) => [Value.int k n] | .agg es => es.map (fun | .lit (.int k n) => Value.int k n | _ => .int .i64 0) | _ => []).toArray
  | _ => #[]
/-- A world for the witness: the settled one with a block more, the variables holding what they are laid as. -/
noncomputable def laidWorld (os : Os) : World :=
  let M := (World.settled Tryd.prog os).heap.size
  let w0 := World.holding Tryd.prog os ⟨#[.cells #[.string ⟨#[98, 121, 116, 101, 115, 46, 66, 117, 102, 102, 101, 114, 58, 32, 116, 111, 111, 32, 108, 97, 114, 103, 101]⟩] 144], #[], []⟩
  let put (h : Array Obj) (g : Nat) (cs : Array Value) : Array Obj := h.modify g fun
    | .cells _ t frozen => .cells cs t frozen
    | o => o
  { w0 with heap := put (put (put (put (put (put w0.heap 0 #[.iface 130 (.pointer (some ⟨M, 0, none⟩))]) 1 (lits Rows.laid_internal_strconv_uint64pow10)) 5 (lits Rows.laid_math_bits_deBruijn32tab)) 6 (lits Rows.laid_math_bits_deBruijn64tab)) 4 (lits Rows.laid_unicode_utf8_acceptRanges)) 3 (lits Rows.laid_unicode_utf8_first) }
theorem laid_met (os : Os) (args : Array Value) : laidMet Tryd.prog laidL ((laidWorld os).forCall (fun _ _ => 0) ⟨#[], args, []⟩).memory :=
  laidMet_of_run3 10 (by kernel_rfl) (by kernel_rfl) (by kernel_rfl)
end Go.Proofs.YtajlhhejblpfcaaDoor.LxTab
