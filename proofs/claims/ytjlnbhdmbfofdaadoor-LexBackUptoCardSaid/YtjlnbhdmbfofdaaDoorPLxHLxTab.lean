/- A contract of the library or of a function, by hand. -/
import Derived.Test.YtjlnbhdmbfofdaaDoorPLxHPvH2
import Derived.Test.YtjlnbhdmbfofdaaDoorRows
import Derived.ProofKit
import Derived.Deep.DeepLaidRun
import Derived.Lib.LaidU8
import Derived.Stop.LaidErr
import Derived.Lib.TrailingZeros
import Derived.Lib.ItoaNum
set_option linter.unusedVariables false
set_option linter.unusedSimpArgs false
namespace Go.Proofs.YtjlnbhdmbfofdaaDoor.LxTab
open Go Go.RowKit Go.Pv
theorem cells5 : Tryd.prog.cellsOf 5 = 1 := by kernel_rfl
theorem cells73 : Tryd.prog.cellsOf 73 = 256 := by kernel_rfl
theorem cells142 : Tryd.prog.cellsOf 142 = 1 := by kernel_rfl
theorem cells9 : Tryd.prog.cellsOf 9 = 1 := by kernel_rfl
theorem tabType : (Tryd.prog.globals[0]?).map (·.type) = some 73 := by kernel_rfl
theorem cells90 : Tryd.prog.cellsOf 90 = 1 := by kernel_rfl
theorem cells118 : Tryd.prog.cellsOf 118 = 20 := by kernel_rfl
theorem cells139 : Tryd.prog.cellsOf 139 = 64 := by kernel_rfl
theorem powType : (Tryd.prog.globals[3]?).map (·.type) = some 118 := by kernel_rfl
theorem brType : (Tryd.prog.globals[7]?).map (·.type) = some 139 := by kernel_rfl
theorem brAt : Tryd.prog.globalNamed "math/bits.deBruijn64tab" = some 7 := by kernel_rfl
theorem errType : (Tryd.prog.globals[5]?).map (·.type) = some 61 := by kernel_rfl
theorem errAt : Tryd.prog.globalNamed "strconv.ErrRange" = some 5 := by kernel_rfl
theorem star : "*" ++ "errors.errorString" = "*errors.errorString" := by decide
theorem row140 (u : TypeId) (h : Tryd.prog.typeName? 3 u = some "*errors.errorString") : u = 140 :=
  typeName_ptr_named (nm := "errors.errorString") (by rw [star]; kernel_rfl) (by kernel_rfl) (by decide) u (by rw [star]; exact h)
def bruijn : List Int := List.map (fun (n : Nat) => (n : Int)) Lib.deBruijn64tab
def laidL : List (String × DataW Unit) := [("math/bits.deBruijn32tab", Rows.laid_math_bits_deBruijn32tab), ("math/bits.deBruijn64tab", Lib.tabData .u8 bruijn), ("internal/strconv.uint64pow10", Lib.tabData .u64 Lib.pow10Tab), ("strconv.ErrRange", Rows.laid_strconv_ErrRange), ("strconv.ErrSyntax", Rows.laid_strconv_ErrSyntax), ("unicode.White_Space", Rows.laid_unicode_White_Space), ("strings.asciiSpace", Lib.tabData .u8 Lib.asciiSpaceTab)]
/-- What the rows' list gives: the table of blanks, and an error for numbers that are too great. -/
theorem table {W : World} (h : laidMet Tryd.prog laidL W) : LaidC.L Tryd.prog W := by
  refine ⟨?_, ?_, ?_, ?_⟩
  · obtain ⟨g, t, cs, fuel, p, hg, ht, hvar, hd⟩ := Lib.laidMet.reads h (n := "strings.asciiSpace") (.tail _ (.tail _ (.tail _ (.tail _ (.tail _ (.tail _ (.head _)))))))
    obtain rfl := Option.some.inj (lexBlanksAt.symm.trans hg)
    obtain rfl := Option.some.inj (tabType.symm.trans ht)
    unfold Lib.TabIs
    rw [hvar, ← Lib.cells_of_tab Tryd.underlying73 Tryd.underlying5 cells5 cells73 hd]
  · obtain ⟨a0, s0, hv0, -, -, -⟩ := laid_sentinel h.tail.tail.tail errAt errType Tryd.underlying61 row140 Tryd.underlying140 Tryd.underlying142 rfl rfl Tryd.underlying9 cells142 cells9
    have h0 := World.var?_cell errAt hv0 0
    exact ⟨140, .pointer (some a0), by simpa using h0⟩
  · obtain ⟨g, t, cs, fuel, p, hg, ht, hvar, hd⟩ := Lib.laidMet.reads h (n := "internal/strconv.uint64pow10") (.tail _ (.tail _ (.head _)))
    obtain rfl := Option.some.inj (lexPowAt.symm.trans hg)
    obtain rfl := Option.some.inj (powType.symm.trans ht)
    unfold Lib.TabIs
    rw [hvar, ← Lib.cells_of_tab Tryd.underlying118 Tryd.underlying90 cells90 cells118 hd]
  · obtain ⟨g, t, cs, fuel, p, hg, ht, hvar, hd⟩ := Lib.laidMet.reads h (n := "math/bits.deBruijn64tab") (.tail _ (.head _))
    obtain rfl := Option.some.inj (brAt.symm.trans hg)
    obtain rfl := Option.some.inj (brType.symm.trans ht)
    have hc := Lib.cells_of_tab Tryd.underlying139 Tryd.underlying5 cells5 cells139 hd
    have hv : W.var? Tryd.prog "math/bits.deBruijn64tab" = some (bruijn.map fun z => Value.int .u8 z).toArray := by rw [hvar, ← hc]
    have h0 := World.var?_cell brAt hv 15
    rw [h0]
    rfl
/-- The values of a list of data. -/
def lits : DataW Unit → Array Value
  | .agg ds => (ds.map fun | .lit (.int k n) => Value.int k n | _ => .int .i64 0).toArray
  | _ => #[]
/-- A world for the witness: the settled one with four blocks more, the variables holding what they are laid as. -/
noncomputable def laidWorld (os : Os) : World :=
  let M := (World.settled Tryd.prog os).heap.size
  let w0 := World.holding Tryd.prog os ⟨#[.cells (Lib.whiteT.map fun (z : Nat) => Value.int .u16 (z : Int)).toArray 110, .cells #[.slice (some ⟨M, 0, none⟩) 7 7, .slice none 0 0, .int .i64 2] 107,
    .cells #[.string ⟨#[118, 97, 108, 117, 101, 32, 111, 117, 116, 32, 111, 102, 32, 114, 97, 110, 103, 101]⟩] 142, .cells #[.string ⟨#[105, 110, 118, 97, 108, 105, 100, 32, 115, 121, 110, 116, 97, 120]⟩] 142], #[], []⟩
  let put (h : Array Obj) (g : Nat) (cs : Array Value) : Array Obj := h.modify g fun
    | .cells _ t frozen => .cells cs t frozen
    | o => o
  { w0 with heap := put (put (put (put (put (put (put w0.heap 0 (Lib.asciiSpaceTab.map fun z => Value.int .u8 z).toArray) 1 #[.pointer (some ⟨M + 1, 0, none⟩)]) 3 (lits Rows.laid_internal_strconv_uint64pow10)) 4 #[.iface 140 (.pointer (some ⟨M + 3, 0, none⟩))]) 5 #[.iface 140 (.pointer (some ⟨M + 2, 0, none⟩))]) 6 (lits Rows.laid_math_bits_deBruijn32tab)) 7 (lits Rows.laid_math_bits_deBruijn64tab) }
theorem laid_met (os : Os) (args : Array Value) : laidMet Tryd.prog laidL ((laidWorld os).forCall (fun _ _ => 0) ⟨#[], args, []⟩).memory :=
  laidMet_of_run3 10 (by kernel_rfl) (by kernel_rfl) (by kernel_rfl)
end Go.Proofs.YtjlnbhdmbfofdaaDoor.LxTab
