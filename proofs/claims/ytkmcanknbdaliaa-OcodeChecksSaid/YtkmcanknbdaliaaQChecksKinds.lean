/- The contract of ocode.kinds: the table of what each instruction takes and adds. -/
import Derived.Test.YtkmcanknbdaliaaProg
import Derived.WalkKit
import Derived.KernelRfl
import Derived.Below
import Derived.Laws.Tables
import Derived.Laws.Rows
import Derived.Deep.WholeRow
namespace Go.Proofs.Ytkmcanknbdaliaa.Lx
open Go Go.RowKit
structure SKind where
 f0 : ByteArray
 f1 : Int
 f2 : Int
 f3 : Int
def kindList : List SKind :=
 [⟨⟨#[]⟩, 0, 0, 0⟩,
   ⟨⟨#[110, 117, 109]⟩, 1, 0, 1⟩,
   ⟨⟨#[108, 111, 99, 97, 108]⟩, 2, 0, 1⟩,
   ⟨⟨#[112, 117, 116, 108]⟩, 2, 1, 0⟩,
   ⟨⟨#[97, 100, 100, 114, 108]⟩, 2, 0, 1⟩,
   ⟨⟨#[103, 108, 111, 98, 97, 108]⟩, 3, 0, 1⟩,
   ⟨⟨#[112, 117, 116, 103]⟩, 3, 1, 0⟩,
   ⟨⟨#[97, 100, 100, 114, 103]⟩, 3, 0, 1⟩,
   ⟨⟨#[115, 116, 97, 116, 105, 99]⟩, 4, 0, 1⟩,
   ⟨⟨#[112, 117, 116, 115]⟩, 4, 1, 0⟩,
   ⟨⟨#[97, 100, 100, 114, 115]⟩, 4, 0, 1⟩,
   ⟨⟨#[112, 114, 111, 99]⟩, 5, 0, 1⟩,
   ⟨⟨#[108, 111, 97, 100]⟩, 0, 1, 1⟩,
   ⟨⟨#[115, 116, 111, 114, 101]⟩, 0, 2, 0⟩,
   ⟨⟨#[103, 101, 116, 98]⟩, 0, 2, 1⟩,
   ⟨⟨#[112, 117, 116, 98]⟩, 0, 3, 0⟩,
   ⟨⟨#[98, 105, 110]⟩, 7, 2, 1⟩,
   ⟨⟨#[117, 110]⟩, 8, 1, 1⟩,
   ⟨⟨#[115, 116, 97, 99, 107]⟩, 2, 0, 0⟩,
   ⟨⟨#[108, 97, 98, 101, 108]⟩, 6, 0, 0⟩,
   ⟨⟨#[106, 117, 109, 112]⟩, 6, 0, 0⟩,
   ⟨⟨#[116, 114, 117, 101]⟩, 6, 1, 0⟩,
   ⟨⟨#[102, 97, 108, 115, 101]⟩, 6, 1, 0⟩,
   ⟨⟨#[99, 97, 108, 108]⟩, 2, 0, 0⟩,
   ⟨⟨#[101, 110, 116, 101, 114]⟩, 5, 0, 0⟩,
   ⟨⟨#[114, 101, 116, 117, 114, 110]⟩, 0, 1, 0⟩,
   ⟨⟨#[98, 97, 99, 107]⟩, 0, 0, 0⟩,
   ⟨⟨#[114, 101, 115, 117, 108, 116]⟩, 6, 1, 0⟩,
   ⟨⟨#[116, 97, 107, 101]⟩, 2, 0, 0⟩,
   ⟨⟨#[115, 119, 105, 116, 99, 104]⟩, 6, 1, 0⟩,
   ⟨⟨#[99, 97, 115, 101]⟩, 1, 0, 0⟩]
def kindCells : Array Value := (kindList.flatMap fun x => [.string x.f0, .int .i64 x.f1, .int .i64 x.f2, .int .i64 x.f3]).toArray
theorem wpList_build_to {P : Program} {ops : Array Oper} {rest : List Oper} {o : Oper} {a : Act} {w : World} {Q : Exit → Act → World → Prop} (hg : o.guard = none) (t : TypeId) (parts : Array (Nat × Operand)) (ho : o.op = .build t parts)
  (cells : Array Value) (hf : P.built t (parts.map fun (i, x) => (i, a.eval x)).toList = some cells)
  (h : wpList P ops Q rest (a.put o.dst (.agg cells)) w) : wpList P ops Q (o :: rest) a w :=
 wpList_build hg t parts ho (by rw [hf]; rfl) (by rw [hf]; exact h)
set_option maxHeartbeats 4000000 in
set_option maxRecDepth 100000 in
theorem kinds_calls (w : World) : Calls Try.prog 36 #[] w fun e w' => e = .returned (.agg kindCells) ∧ w' = w.alloc (.cells kindCells 54) := by
 go_enter Try.func36, Try.ntmps36
 go_wp2_with (first | (refine wpList_build rfl 53 _ rfl ?hb ?_; (case hb => kernel_rfl)) | (refine wpList_build_to rfl 54 _ rfl kindCells ?hb ?_; (case hb => kernel_rfl)) | (refine wpList_store_row rfl 54 (.tmp 0) (.tmp 31) rfl w.heap.size kindCells ?h5 ?h6 54 Try.zeroCells54 ?h0 ?h1 ?h2 ?h3 ?_; (case h0 => exact heap_alloc_last w _); (case h1 => kernel_rfl); (case h2 => kernel_rfl); (case h3 => kernel_rfl); (case h5 => kernel_rfl); (case h6 => kernel_rfl)))
 refine bodyPost_ret (v := .agg kindCells) ?hr ?hd ?hR
 case hR => exact ⟨rfl, World.setRow_alloc_new _ _ _ _⟩
 case hd => kernel_rfl
 case hr =>
  refine results_cell_row (P := Try.prog) (p := 0) (ty := 54) ?h1 _ _ w.heap.size 54 kindCells (0, 0) _ ?ha ?hb Try.underlying54 ?hq ?hc
  case h1 => kernel_rfl
  case ha => kernel_rfl
  case hb => rw [World.setRow_alloc_new]; exact heap_alloc_last w _
  case hq => rfl
  case hc => kernel_rfl
end Go.Proofs.Ytkmcanknbdaliaa.Lx
