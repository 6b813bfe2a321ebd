/- A contract of the library or of a function, by hand. -/
import Derived.Test.YtgileklccaliiaaDoorPOcHH1
import Derived.Test.YtgileklccaliiaaDoorRows
import Derived.ProofKit
import Derived.Deep.DeepLaidRun
import Derived.Lib.LaidU8
import Derived.Stop.LaidErr
import Derived.Lib.TrailingZeros
import Derived.Lib.ItoaNum
set_option linter.unusedVariables false
set_option linter.unusedSimpArgs false
namespace Go.Proofs.YtgileklccaliiaaDoor.LxTab
open Go Go.RowKit Go.Pv
theorem cells5 : Tryd.prog.cellsOf 5 = 1 := by kernel_rfl
theorem cells90 : Tryd.prog.cellsOf 94 = 1 := by kernel_rfl
theorem cells118 : Tryd.prog.cellsOf 105 = 20 := by kernel_rfl
theorem cells256 : Tryd.prog.cellsOf 99 = 256 := by kernel_rfl
theorem tabType : (Tryd.prog.globals[0]?).map (·.type) = some 99 := by kernel_rfl
theorem powType : (Tryd.prog.globals[2]?).map (·.type) = some 105 := by kernel_rfl
def laidL : List (String × DataW Unit) := [("math/bits.deBruijn32tab", Rows.laid_math_bits_deBruijn32tab), ("math/bits.deBruijn64tab", Rows.laid_math_bits_deBruijn64tab), ("internal/strconv.uint64pow10", Lib.tabData .u64 Lib.pow10Tab), ("unicode.White_Space", Rows.laid_unicode_White_Space), ("strings.asciiSpace", Lib.tabData .u8 Lib.asciiSpaceTab)]
theorem table {W : World} (h : laidMet Tryd.prog laidL W) : LaidC.L Tryd.prog W := by
  refine ⟨?_, ?_⟩
  · obtain ⟨g, t, cs, fuel, p, hg, ht, hvar, hd⟩ := Lib.laidMet.reads h (n := "internal/strconv.uint64pow10") (.tail _ (.tail _ (.head _)))
    obtain rfl := Option.some.inj (papPowAt.symm.trans hg)
    obtain rfl := Option.some.inj (powType.symm.trans ht)
    unfold Lib.TabIs
    rw [hvar, ← Lib.cells_of_tab Tryd.underlying105 Tryd.underlying94 cells90 cells118 hd]
  · obtain ⟨g, t, cs, fuel, p, hg, ht, hvar, hd⟩ := Lib.laidMet.reads h (n := "strings.asciiSpace") (.tail _ (.tail _ (.tail _ (.tail _ (.head _)))))
    obtain rfl := Option.some.inj (papBlanksAt.symm.trans hg)
    obtain rfl := Option.some.inj (tabType.symm.trans ht)
    unfold Lib.TabIs
    rw [hvar, ← Lib.cells_of_tab Tryd.underlying99 Tryd.underlying5 cells5 cells256 hd]
/-- The values of a list of data. -/
def lits : DataW Unit → Array Value
  | .agg ds => (ds.map fun | .lit (.int k n) => Value.int k n | _ => .int .i64 0).toArray
  | _ => #[]
/-- A world for the witness: the settled one with two blocks more, the variables holding what they are laid as. -/
noncomputable def laidWorld (os : Os) : World :=
  let M := (World.settled Tryd.prog os).heap.size
  let w0 := World.holding Tryd.prog os ⟨#[.cells (Lib.whiteT.map fun (z : Nat) => Value.int .u16 (z : Int)).toArray 122, .cells #[.slice (some ⟨M, 0, none⟩) 7 7, .slice none 0 0, .int .i64 2] 119], #[], []⟩
  let put (h : Array Obj) (g : Nat) (cs : Array Value) : Array Obj := h.modify g fun
    | .cells _ t frozen => .cells cs t frozen
    | o => o
  { w0 with heap := put (put (put (put (put w0.heap 0 (Lib.asciiSpaceTab.map fun z => Value.int .u8 z).toArray) 3 #[.pointer (some ⟨M + 1, 0, none⟩)]) 2 (lits Rows.laid_internal_strconv_uint64pow10)) 4 (lits Rows.laid_math_bits_deBruijn32tab)) 5 (lits Rows.laid_math_bits_deBruijn64tab) }
theorem laid_met (os : Os) (args : Array Value) : laidMet Tryd.prog laidL ((laidWorld os).forCall (fun _ _ => 0) ⟨#[], args, []⟩).memory :=
  laidMet_of_run3 10 (by kernel_rfl) (by kernel_rfl) (by kernel_rfl)
end Go.Proofs.YtgileklccaliiaaDoor.LxTab
