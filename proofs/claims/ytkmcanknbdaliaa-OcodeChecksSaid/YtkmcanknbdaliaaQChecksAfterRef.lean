/- The reference's depth behind an instruction is the program's. -/
import Derived.Test.YtkmcanknbdaliaaQChecksCheck
import Derived.Test.YtkmcanknbdaliaaQChecks3
namespace Go.Proofs.Ytkmcanknbdaliaa.Lx
open Go Go.RowKit Go.Proofs.YtkmcanknbdaliaaW.PrintWords Go.Proofs.YtkmcanknbdaliaaW.PrintLast Go.Proofs.YtkmcanknbdaliaaW.PrintMore Go.Proofs.Ytkmcanknbdaliaa.PO
set_option linter.unusedSimpArgs false
set_option linter.unusedVariables false
/-- The depth behind an instruction of a kind, as the reference tells it. -/
def AftAt (N u v : Int) : Prop := ∀ (f1 f2 d : Int) (k : Nat), (kindAt N).f2 = u → (kindAt N).f3 = v → Small f1 → Small f2 → Small d → bluebellref06_After.f (k + 3) N f1 f2 d = some (afterI ⟨N, f1, f2⟩ d (kindAt N))
theorem aft_all : AftAt 1 0 1 ∧ AftAt 2 0 1 ∧ AftAt 3 1 0 ∧ AftAt 4 0 1 ∧ AftAt 5 0 1 ∧ AftAt 6 1 0 ∧ AftAt 7 0 1 ∧ AftAt 8 0 1 ∧ AftAt 9 1 0 ∧ AftAt 10 0 1 ∧ AftAt 11 0 1 ∧ AftAt 12 1 1 ∧ AftAt 13 2 0 ∧ AftAt 14 2 1 ∧ AftAt 15 3 0 ∧ AftAt 16 2 1 ∧ AftAt 17 1 1 ∧ AftAt 18 0 0 ∧ AftAt 19 0 0 ∧ AftAt 20 0 0 ∧ AftAt 21 1 0 ∧ AftAt 22 1 0 ∧ AftAt 23 0 0 ∧ AftAt 24 0 0 ∧ AftAt 25 1 0 ∧ AftAt 26 0 0 ∧ AftAt 27 1 0 ∧ AftAt 28 0 0 ∧ AftAt 29 1 0 ∧ AftAt 30 0 0 := by
 refine ⟨?_, ?_, ?_, ?_, ?_, ?_, ?_, ?_, ?_, ?_, ?_, ?_, ?_, ?_, ?_, ?_, ?_, ?_, ?_, ?_, ?_, ?_, ?_, ?_, ?_, ?_, ?_, ?_, ?_, ?_⟩ <;> (
  intro f1 f2 d k e1 e2 h1 h2 h3
  unfold Small at *
  unfold bluebellref06_After.f afterI
  simp only [bluebellref06_After.j0, bluebellref06_After.j1, bluebellref06_After.j2, e1, e2]
  simp
  try (rw [w64 _ (by omega)])
  try omega)
theorem after_refk {c : Cod} {o : S35} (h : opOk c o = true) (d : Int) (k : Nat) (hk : 3 ≤ k) (h1 : Small o.f1) (h2 : Small o.f2) (h3 : Small d) : bluebellref06_After.f k o.f0 o.f1 o.f2 d = some (afterI o d (kindAt o.f0)) := by
 obtain ⟨k, rfl⟩ : ∃ m, k = m + 3 := ⟨k - 3, by omega⟩
 have ha := of_decide_eq_true (and2 (and2 h).1).1
 have hb := of_decide_eq_true (and2 (and2 h).1).2
 obtain ⟨f0, f1, f2⟩ := o
 change 1 ≤ f0 at ha
 change f0 < 31 at hb
 change bluebellref06_After.f (k + 3) f0 f1 f2 d = some (afterI ⟨f0, f1, f2⟩ d (kindAt f0))
 change Small f1 at h1
 change Small f2 at h2
 obtain ⟨a1, a2, a3, a4, a5, a6, a7, a8, a9, a10, a11, a12, a13, a14, a15, a16, a17, a18, a19, a20, a21, a22, a23, a24, a25, a26, a27, a28, a29, a30⟩ := aft_all
 have : f0 = 1 ∨ f0 = 2 ∨ f0 = 3 ∨ f0 = 4 ∨ f0 = 5 ∨ f0 = 6 ∨ f0 = 7 ∨ f0 = 8 ∨ f0 = 9 ∨ f0 = 10 ∨ f0 = 11 ∨ f0 = 12 ∨ f0 = 13 ∨ f0 = 14 ∨ f0 = 15 ∨ f0 = 16 ∨ f0 = 17 ∨ f0 = 18 ∨ f0 = 19 ∨ f0 = 20 ∨ f0 = 21 ∨ f0 = 22 ∨ f0 = 23 ∨ f0 = 24 ∨ f0 = 25 ∨ f0 = 26 ∨ f0 = 27 ∨ f0 = 28 ∨ f0 = 29 ∨ f0 = 30 := by omega
 rcases this with e | e | e | e | e | e | e | e | e | e | e | e | e | e | e | e | e | e | e | e | e | e | e | e | e | e | e | e | e | e <;> subst e
 ·exact a1 f1 f2 d k (by kernel_rfl) (by kernel_rfl) h1 h2 h3
 ·exact a2 f1 f2 d k (by kernel_rfl) (by kernel_rfl) h1 h2 h3
 ·exact a3 f1 f2 d k (by kernel_rfl) (by kernel_rfl) h1 h2 h3
 ·exact a4 f1 f2 d k (by kernel_rfl) (by kernel_rfl) h1 h2 h3
 ·exact a5 f1 f2 d k (by kernel_rfl) (by kernel_rfl) h1 h2 h3
 ·exact a6 f1 f2 d k (by kernel_rfl) (by kernel_rfl) h1 h2 h3
 ·exact a7 f1 f2 d k (by kernel_rfl) (by kernel_rfl) h1 h2 h3
 ·exact a8 f1 f2 d k (by kernel_rfl) (by kernel_rfl) h1 h2 h3
 ·exact a9 f1 f2 d k (by kernel_rfl) (by kernel_rfl) h1 h2 h3
 ·exact a10 f1 f2 d k (by kernel_rfl) (by kernel_rfl) h1 h2 h3
 ·exact a11 f1 f2 d k (by kernel_rfl) (by kernel_rfl) h1 h2 h3
 ·exact a12 f1 f2 d k (by kernel_rfl) (by kernel_rfl) h1 h2 h3
 ·exact a13 f1 f2 d k (by kernel_rfl) (by kernel_rfl) h1 h2 h3
 ·exact a14 f1 f2 d k (by kernel_rfl) (by kernel_rfl) h1 h2 h3
 ·exact a15 f1 f2 d k (by kernel_rfl) (by kernel_rfl) h1 h2 h3
 ·exact a16 f1 f2 d k (by kernel_rfl) (by kernel_rfl) h1 h2 h3
 ·exact a17 f1 f2 d k (by kernel_rfl) (by kernel_rfl) h1 h2 h3
 ·exact a18 f1 f2 d k (by kernel_rfl) (by kernel_rfl) h1 h2 h3
 ·exact a19 f1 f2 d k (by kernel_rfl) (by kernel_rfl) h1 h2 h3
 ·exact a20 f1 f2 d k (by kernel_rfl) (by kernel_rfl) h1 h2 h3
 ·exact a21 f1 f2 d k (by kernel_rfl) (by kernel_rfl) h1 h2 h3
 ·exact a22 f1 f2 d k (by kernel_rfl) (by kernel_rfl) h1 h2 h3
 ·exact a23 f1 f2 d k (by kernel_rfl) (by kernel_rfl) h1 h2 h3
 ·exact a24 f1 f2 d k (by kernel_rfl) (by kernel_rfl) h1 h2 h3
 ·exact a25 f1 f2 d k (by kernel_rfl) (by kernel_rfl) h1 h2 h3
 ·exact a26 f1 f2 d k (by kernel_rfl) (by kernel_rfl) h1 h2 h3
 ·exact a27 f1 f2 d k (by kernel_rfl) (by kernel_rfl) h1 h2 h3
 ·exact a28 f1 f2 d k (by kernel_rfl) (by kernel_rfl) h1 h2 h3
 ·exact a29 f1 f2 d k (by kernel_rfl) (by kernel_rfl) h1 h2 h3
 ·exact a30 f1 f2 d k (by kernel_rfl) (by kernel_rfl) h1 h2 h3
end Go.Proofs.Ytkmcanknbdaliaa.Lx
