/- The small example of the statements: it has the depths that it should have. -/
import Derived.Test.YtkmcanknbdaliaaQChecksEDepths
import Derived.Test.YtkmcanknbdaliaaQChecks7
namespace Go.Proofs.Ytkmcanknbdaliaa.Lx
open Go Go.RowKit Go.Proofs.YtkmcanknbdaliaaW.PrintWords Go.Proofs.YtkmcanknbdaliaaW.PrintLast Go.Proofs.YtkmcanknbdaliaaW.PrintMore Go.Proofs.Ytkmcanknbdaliaa.PO
theorem awake_depths : ocode_Depths.f ⟨#[]⟩ [] [⟨24, 1, 0⟩, ⟨1, 65, 0⟩, ⟨25, 0, 0⟩] [] 1 0 = some ([0, 2, 3], 0) := by kernel_rfl
theorem awake_f (k : Nat) (hk : 5 ≤ k) : bluebelllaw06_awake.f k = some true := by
 refine at_rounds (fun k => bluebelllaw06_awake.mono k) hk ?_
 unfold bluebelllaw06_awake.f
 rw [awake_depths]
 kernel_rfl
end Go.Proofs.Ytkmcanknbdaliaa.Lx
