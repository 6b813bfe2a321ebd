/- What ocode.Check answers, in plain words. -/
import Derived.Test.YtkmcanknbdaliaaQChecksECoded
import Derived.Test.YtkmcanknbdaliaaQChecksEStacked
import Derived.Test.YtkmcanknbdaliaaQChecks6
namespace Go.Proofs.Ytkmcanknbdaliaa.Lx
open Go Go.RowKit Go.Proofs.YtkmcanknbdaliaaW.PrintWords Go.Proofs.YtkmcanknbdaliaaW.PrintLast Go.Proofs.YtkmcanknbdaliaaW.PrintMore Go.Proofs.Ytkmcanknbdaliaa.PO
def checkI (c : Cod) : Int := if largeB c = true then 2 else if codedB c = true then (if stackedB c = true then 0 else 61) else 60
theorem check_f (c : Cod) (h : Fine c) (k : Nat) (hk : c.data.length + 2 ≤ k) : ocode_Check.f k c.name c.data c.ops c.gl c.procs c.labels = some (checkI c) := by
 unfold ocode_Check.f checkI
 rw [large_f c h k hk]
 simp only [Option.bind_some]
 by_cases a : largeB c = true
 ·rw [if_pos a, if_pos a]
 rw [if_neg a, if_neg a]
 have hL : c.labels ≤ 20000 ∧ c.procs ≤ 200 := by
  unfold largeB at a
  simp only [Bool.or_eq_true, decide_eq_true_eq, not_or] at a
  omega
 have e1 : ocode_coded.f c.name c.data c.ops c.gl c.procs c.labels = some (codedB c) := by
  unfold ocode_coded.f
  exact if_pos (by rw [(fine_iff c).2 h, decide_eq_true (by omega : c.labels ≤ 1000000)]; rfl)
 rw [e1]
 simp only [Option.bind_some]
 by_cases b : codedB c = true
 ·rw [if_pos b, if_pos b]
  have e2 : ocode_stacked.f c.name c.data c.ops c.gl c.procs c.labels = some (stackedB c) := by
   unfold ocode_stacked.f
   exact if_pos (by rw [(fine_iff c).2 h, decide_eq_true (by omega : c.labels ≤ 1000000), decide_eq_true (by omega : c.procs ≤ 1000000), show codedB ⟨c.name, c.data, c.ops, c.gl, c.procs, c.labels⟩ = true from b]; rfl)
  rw [e2]
  cases stackedB c <;> rfl
 ·rw [if_neg b, if_neg b]
structure Valid (c : Cod) : Prop where
 fine : Fine c
 small : largeB c = false
 coded : codedB c = true
 stacked : stackedB c = true
theorem check_ok {c : Cod} (h : Fine c) (hc : checkI c = 0) : Valid c := by
 unfold checkI at hc
 by_cases a : largeB c = true
 ·rw [if_pos a] at hc; exact absurd hc (by decide)
 rw [if_neg a] at hc
 by_cases b : codedB c = true
 ·rw [if_pos b] at hc
  by_cases s : stackedB c = true
  ·exact ⟨h, by simpa using a, b, s⟩
  ·rw [if_neg s] at hc; exact absurd hc (by decide)
 ·rw [if_neg b] at hc; exact absurd hc (by decide)
theorem Valid.lim {c : Cod} (h : Valid c) : c.labels ≤ 20000 ∧ c.procs ≤ 200 ∧ c.ops.length ≤ 40000 ∧ c.data.length ≤ 2000 ∧ areasSize c.data ≤ 7800 := by
 have a := h.small
 unfold largeB at a
 simp only [Bool.or_eq_false_iff, decide_eq_false_iff_not] at a
 omega
theorem Valid.st {c : Cod} (h : Valid c) : StackOk c := stack_ok h.fine (by have := h.lim; omega) (by have := h.lim; omega) h.coded
theorem at_succ (k : Nat) (h : (k : Int) + 1 ≤ 9223372036854775807) : wrap64 ((k : Int) + 1) = ((k + 1 : Nat) : Int) := by rw [w64 _ (by omega)]; simp
/-- The call of Check as the printer tells it, in the plain form. -/
theorem check_calls (c : Cod) (a : Adr) (w : World) (h : CodAt w c a) (hf : Fine c) : Calls Try.prog 20 #[.agg (codCells c a)] w fun e w' => e = .returned (.int .i64 (checkI c)) ∧ Below w.heap.size w w' :=
 ocode_Check.calls (c.data.length + 2) _ _ _ _ _ _ _ _ _ _ _ _ _ w h.h1 h.l1 h.h2 h.l2 h.h3 h.l3 (check_f c hf _ (Nat.le_refl _))
end Go.Proofs.Ytkmcanknbdaliaa.Lx
