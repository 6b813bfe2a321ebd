/- How a value of type api.Code lies in memory, in plain words. -/
import Derived.Test.YtkmcanknbdaliaaQChecks1
import Derived.Lib.Hide
namespace Go.Proofs.Ytkmcanknbdaliaa.Lx
open Go Go.RowKit Go.Proofs.YtkmcanknbdaliaaW.PrintWords Go.Proofs.YtkmcanknbdaliaaW.PrintLast Go.Proofs.YtkmcanknbdaliaaW.PrintMore Go.Proofs.Ytkmcanknbdaliaa.PO
/-- Code, as data. -/
structure Cod where
 name : ByteArray
 data : List S47
 ops : List S35
 gl : List S68
 procs : Int
 labels : Int
/-- Where its slices lie. -/
structure Adr where
 a1 : Option Addr
 c1 : Nat
 a2 : Option Addr
 c2 : Nat
 a3 : Option Addr
 c3 : Nat
/-- Its cells. -/
def codCells (c : Cod) (a : Adr) : Array Value := #[.string c.name, .slice a.a1 c.data.length a.c1, .slice a.a2 c.ops.length a.c2, .slice a.a3 c.gl.length a.c3, .int .i64 c.procs, .int .i64 c.labels]
/-- Its slices lie where they should. -/
structure CodAt (w : World) (c : Cod) (a : Adr) : Prop where
 h1 : Kd.C k47 w a.a1 c.data.length c.data
 l1 : c.data.length ≤ a.c1
 h2 : Kd.C k35 w a.a2 c.ops.length c.ops
 l2 : c.ops.length ≤ a.c2
 h3 : Kd.C k68 w a.a3 c.gl.length c.gl
 l3 : c.gl.length ≤ a.c3
theorem CodAt.below {w w1 : World} {c : Cod} {a : Adr} (h : CodAt w c a) (hb : Below w.heap.size w w1) : CodAt w1 c a := ⟨Kd.C_below h.h1 hb, h.l1, Kd.C_below h.h2 hb, h.l2, Kd.C_below h.h3 hb, h.l3⟩
/-- One instruction in its place, at a later world. -/
theorem CodAt.op {w : World} {c : Cod} {a : Adr} (h : CodAt w c a) (k : Nat) (hk : k < c.ops.length) (x : S35) (hx : x = rd_T35 c.ops k) :
  ∃ ad, a.a2 = some ad ∧ w.cell? (ad.add (k * 3)) = some (.int .i64 x.f0) ∧ w.cell? ⟨(ad.add (k * 3)).block, (ad.add (k * 3)).off + 1, none⟩ = some (.int .i64 x.f1) ∧ w.cell? ⟨(ad.add (k * 3)).block, (ad.add (k * 3)).off + 2, none⟩ = some (.int .i64 x.f2) := by
 subst hx
 exact at_T35 h.h2 (k : Int) (by omega) (by omega)
end Go.Proofs.Ytkmcanknbdaliaa.Lx
