/- The law OcodeChecks, in plain words: the program and the reference give the same verdict on any code. -/
import Derived.Test.YtkmcanknbdaliaaQChecksRefCheck
import Derived.Test.YtkmcanknbdaliaaQChecksESame
import Derived.Test.YtkmcanknbdaliaaQChecksAwake
import Derived.Test.YtkmcanknbdaliaaQChecksOpenCode
import Derived.Test.YtkmcanknbdaliaaQChecks8
namespace Go.Proofs.Ytkmcanknbdaliaa.Lx
open Go Go.RowKit Go.Proofs.YtkmcanknbdaliaaW.PrintWords Go.Proofs.YtkmcanknbdaliaaW.PrintLast Go.Proofs.YtkmcanknbdaliaaW.PrintMore Go.Proofs.Ytkmcanknbdaliaa.PO
theorem eqO_refl (a : S35) : eqO a a = true := by unfold eqO; simp
theorem eqE_refl (a : S68) : eqE a a = true := by unfold eqE; simp
theorem eqI_refl (a : Int) : eqI a a = true := by unfold eqI; simp
theorem eqD_refl (a : S47) : eqD a a = true := by unfold eqD; simp [eqLB_refl eqI_refl]
theorem same_refl (c : Cod) : sameB c c = true := by
 unfold sameB
 simp [eqLB_refl eqO_refl, eqLB_refl eqE_refl, eqLB_refl eqD_refl]
theorem same_fk (c d : Cod) (hf : Fine c) : ocode_Same.f c.name c.data c.ops c.gl c.procs c.labels d.name d.data d.ops d.gl d.procs d.labels = some (sameB c d) := by
 unfold ocode_Same.f
 exact if_pos ((fine_iff c).2 hf)
theorem checks_pure (c : Cod) (hw : Wide c) (_ : Whole c) : ∃ k, bluebelllaw06_OcodeChecks.f k c.name c.data c.ops c.gl c.procs c.labels = some true := by
 obtain ⟨b, hb, hf⟩ := heavy_f c hw
 cases b with
 | true =>
  refine ⟨c.data.length + 10, ?_⟩
  unfold bluebelllaw06_OcodeChecks.f
  rw [hb _ (by omega), Option.bind_some, if_pos rfl, awake_f _ (by omega)]
  rfl
 | false =>
  have hf := hf rfl
  obtain ⟨K, hK⟩ := check_ref c hf
  refine ⟨K + c.data.length + 10, ?_⟩
  unfold bluebelllaw06_OcodeChecks.f
  rw [hb _ (by omega), Option.bind_some, if_neg (by decide), check_f c hf _ (by omega), Option.bind_some, hK _ (by omega), Option.bind_some, if_pos rfl, same_fk c c hf, Option.bind_some, same_refl, if_pos rfl, awake_f _ (by omega)]
  rfl
end Go.Proofs.Ytkmcanknbdaliaa.Lx
