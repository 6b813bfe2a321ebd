/- The reference's depth behind an instruction is the program's. -/
import Derived.Test.YtkmcanknbdaliaaQDownCheck
import Derived.Test.YtkmcanknbdaliaaQDown2
namespace Go.Proofs.Ytkmcanknbdaliaa.Lx
open Go Go.RowKit Go.Proofs.YtkmcanknbdaliaaW.PrintWords Go.Proofs.YtkmcanknbdaliaaW.PrintLast Go.Proofs.YtkmcanknbdaliaaW.PrintMore Go.Proofs.Ytkmcanknbdaliaa.PO
set_option linter.unusedSimpArgs false
set_option linter.unusedVariables false
theorem after_ref1 (f1 f2 d : Int) (k : Nat) (h1 : Small f1) (h2 : Small f2) (h3 : Small d) : bluebellref06_After.f (k + 3) 1 f1 f2 d = some (afterI ⟨1, f1, f2⟩ d (kindAt 1)) := by
  have e1 : (kindAt 1).f2 = 0 := by kernel_rfl
  have e2 : (kindAt 1).f3 = 1 := by kernel_rfl
  unfold Small at *
  unfold bluebellref06_After.f afterI
  simp only [bluebellref06_After.j0, bluebellref06_After.j1, bluebellref06_After.j2, e1, e2]
  simp
  try (rw [w64 _ (by omega)])
  try omega
theorem after_ref2 (f1 f2 d : Int) (k : Nat) (h1 : Small f1) (h2 : Small f2) (h3 : Small d) : bluebellref06_After.f (k + 3) 2 f1 f2 d = some (afterI ⟨2, f1, f2⟩ d (kindAt 2)) := by
  have e1 : (kindAt 2).f2 = 0 := by kernel_rfl
  have e2 : (kindAt 2).f3 = 1 := by kernel_rfl
  unfold Small at *
  unfold bluebellref06_After.f afterI
  simp only [bluebellref06_After.j0, bluebellref06_After.j1, bluebellref06_After.j2, e1, e2]
  simp
  try (rw [w64 _ (by omega)])
  try omega
theorem after_ref3 (f1 f2 d : Int) (k : Nat) (h1 : Small f1) (h2 : Small f2) (h3 : Small d) : bluebellref06_After.f (k + 3) 3 f1 f2 d = some (afterI ⟨3, f1, f2⟩ d (kindAt 3)) := by
  have e1 : (kindAt 3).f2 = 1 := by kernel_rfl
  have e2 : (kindAt 3).f3 = 0 := by kernel_rfl
  unfold Small at *
  unfold bluebellref06_After.f afterI
  simp only [bluebellref06_After.j0, bluebellref06_After.j1, bluebellref06_After.j2, e1, e2]
  simp
  try (rw [w64 _ (by omega)])
  try omega
theorem after_ref4 (f1 f2 d : Int) (k : Nat) (h1 : Small f1) (h2 : Small f2) (h3 : Small d) : bluebellref06_After.f (k + 3) 4 f1 f2 d = some (afterI ⟨4, f1, f2⟩ d (kindAt 4)) := by
  have e1 : (kindAt 4).f2 = 0 := by kernel_rfl
  have e2 : (kindAt 4).f3 = 1 := by kernel_rfl
  unfold Small at *
  unfold bluebellref06_After.f afterI
  simp only [bluebellref06_After.j0, bluebellref06_After.j1, bluebellref06_After.j2, e1, e2]
  simp
  try (rw [w64 _ (by omega)])
  try omega
theorem after_ref5 (f1 f2 d : Int) (k : Nat) (h1 : Small f1) (h2 : Small f2) (h3 : Small d) : bluebellref06_After.f (k + 3) 5 f1 f2 d = some (afterI ⟨5, f1, f2⟩ d (kindAt 5)) := by
  have e1 : (kindAt 5).f2 = 0 := by kernel_rfl
  have e2 : (kindAt 5).f3 = 1 := by kernel_rfl
  unfold Small at *
  unfold bluebellref06_After.f afterI
  simp only [bluebellref06_After.j0, bluebellref06_After.j1, bluebellref06_After.j2, e1, e2]
  simp
  try (rw [w64 _ (by omega)])
  try omega
theorem after_ref6 (f1 f2 d : Int) (k : Nat) (h1 : Small f1) (h2 : Small f2) (h3 : Small d) : bluebellref06_After.f (k + 3) 6 f1 f2 d = some (afterI ⟨6, f1, f2⟩ d (kindAt 6)) := by
  have e1 : (kindAt 6).f2 = 1 := by kernel_rfl
  have e2 : (kindAt 6).f3 = 0 := by kernel_rfl
  unfold Small at *
  unfold bluebellref06_After.f afterI
  simp only [bluebellref06_After.j0, bluebellref06_After.j1, bluebellref06_After.j2, e1, e2]
  simp
  try (rw [w64 _ (by omega)])
  try omega
theorem after_ref7 (f1 f2 d : Int) (k : Nat) (h1 : Small f1) (h2 : Small f2) (h3 : Small d) : bluebellref06_After.f (k + 3) 7 f1 f2 d = some (afterI ⟨7, f1, f2⟩ d (kindAt 7)) := by
  have e1 : (kindAt 7).f2 = 0 := by kernel_rfl
  have e2 : (kindAt 7).f3 = 1 := by kernel_rfl
  unfold Small at *
  unfold bluebellref06_After.f afterI
  simp only [bluebellref06_After.j0, bluebellref06_After.j1, bluebellref06_After.j2, e1, e2]
  simp
  try (rw [w64 _ (by omega)])
  try omega
theorem after_ref8 (f1 f2 d : Int) (k : Nat) (h1 : Small f1) (h2 : Small f2) (h3 : Small d) : bluebellref06_After.f (k + 3) 8 f1 f2 d = some (afterI ⟨8, f1, f2⟩ d (kindAt 8)) := by
  have e1 : (kindAt 8).f2 = 0 := by kernel_rfl
  have e2 : (kindAt 8).f3 = 1 := by kernel_rfl
  unfold Small at *
  unfold bluebellref06_After.f afterI
  simp only [bluebellref06_After.j0, bluebellref06_After.j1, bluebellref06_After.j2, e1, e2]
  simp
  try (rw [w64 _ (by omega)])
  try omega
theorem after_ref9 (f1 f2 d : Int) (k : Nat) (h1 : Small f1) (h2 : Small f2) (h3 : Small d) : bluebellref06_After.f (k + 3) 9 f1 f2 d = some (afterI ⟨9, f1, f2⟩ d (kindAt 9)) := by
  have e1 : (kindAt 9).f2 = 1 := by kernel_rfl
  have e2 : (kindAt 9).f3 = 0 := by kernel_rfl
  unfold Small at *
  unfold bluebellref06_After.f afterI
  simp only [bluebellref06_After.j0, bluebellref06_After.j1, bluebellref06_After.j2, e1, e2]
  simp
  try (rw [w64 _ (by omega)])
  try omega
theorem after_ref10 (f1 f2 d : Int) (k : Nat) (h1 : Small f1) (h2 : Small f2) (h3 : Small d) : bluebellref06_After.f (k + 3) 10 f1 f2 d = some (afterI ⟨10, f1, f2⟩ d (kindAt 10)) := by
  have e1 : (kindAt 10).f2 = 0 := by kernel_rfl
  have e2 : (kindAt 10).f3 = 1 := by kernel_rfl
  unfold Small at *
  unfold bluebellref06_After.f afterI
  simp only [bluebellref06_After.j0, bluebellref06_After.j1, bluebellref06_After.j2, e1, e2]
  simp
  try (rw [w64 _ (by omega)])
  try omega
theorem after_ref11 (f1 f2 d : Int) (k : Nat) (h1 : Small f1) (h2 : Small f2) (h3 : Small d) : bluebellref06_After.f (k + 3) 11 f1 f2 d = some (afterI ⟨11, f1, f2⟩ d (kindAt 11)) := by
  have e1 : (kindAt 11).f2 = 0 := by kernel_rfl
  have e2 : (kindAt 11).f3 = 1 := by kernel_rfl
  unfold Small at *
  unfold bluebellref06_After.f afterI
  simp only [bluebellref06_After.j0, bluebellref06_After.j1, bluebellref06_After.j2, e1, e2]
  simp
  try (rw [w64 _ (by omega)])
  try omega
theorem after_ref12 (f1 f2 d : Int) (k : Nat) (h1 : Small f1) (h2 : Small f2) (h3 : Small d) : bluebellref06_After.f (k + 3) 12 f1 f2 d = some (afterI ⟨12, f1, f2⟩ d (kindAt 12)) := by
  have e1 : (kindAt 12).f2 = 1 := by kernel_rfl
  have e2 : (kindAt 12).f3 = 1 := by kernel_rfl
  unfold Small at *
  unfold bluebellref06_After.f afterI
  simp only [bluebellref06_After.j0, bluebellref06_After.j1, bluebellref06_After.j2, e1, e2]
  simp
  try (rw [w64 _ (by omega)])
  try omega
theorem after_ref13 (f1 f2 d : Int) (k : Nat) (h1 : Small f1) (h2 : Small f2) (h3 : Small d) : bluebellref06_After.f (k + 3) 13 f1 f2 d = some (afterI ⟨13, f1, f2⟩ d (kindAt 13)) := by
  have e1 : (kindAt 13).f2 = 2 := by kernel_rfl
  have e2 : (kindAt 13).f3 = 0 := by kernel_rfl
  unfold Small at *
  unfold bluebellref06_After.f afterI
  simp only [bluebellref06_After.j0, bluebellref06_After.j1, bluebellref06_After.j2, e1, e2]
  simp
  try (rw [w64 _ (by omega)])
  try omega
theorem after_ref14 (f1 f2 d : Int) (k : Nat) (h1 : Small f1) (h2 : Small f2) (h3 : Small d) : bluebellref06_After.f (k + 3) 14 f1 f2 d = some (afterI ⟨14, f1, f2⟩ d (kindAt 14)) := by
  have e1 : (kindAt 14).f2 = 2 := by kernel_rfl
  have e2 : (kindAt 14).f3 = 1 := by kernel_rfl
  unfold Small at *
  unfold bluebellref06_After.f afterI
  simp only [bluebellref06_After.j0, bluebellref06_After.j1, bluebellref06_After.j2, e1, e2]
  simp
  try (rw [w64 _ (by omega)])
  try omega
theorem after_ref15 (f1 f2 d : Int) (k : Nat) (h1 : Small f1) (h2 : Small f2) (h3 : Small d) : bluebellref06_After.f (k + 3) 15 f1 f2 d = some (afterI ⟨15, f1, f2⟩ d (kindAt 15)) := by
  have e1 : (kindAt 15).f2 = 3 := by kernel_rfl
  have e2 : (kindAt 15).f3 = 0 := by kernel_rfl
  unfold Small at *
  unfold bluebellref06_After.f afterI
  simp only [bluebellref06_After.j0, bluebellref06_After.j1, bluebellref06_After.j2, e1, e2]
  simp
  try (rw [w64 _ (by omega)])
  try omega
theorem after_ref16 (f1 f2 d : Int) (k : Nat) (h1 : Small f1) (h2 : Small f2) (h3 : Small d) : bluebellref06_After.f (k + 3) 16 f1 f2 d = some (afterI ⟨16, f1, f2⟩ d (kindAt 16)) := by
  have e1 : (kindAt 16).f2 = 2 := by kernel_rfl
  have e2 : (kindAt 16).f3 = 1 := by kernel_rfl
  unfold Small at *
  unfold bluebellref06_After.f afterI
  simp only [bluebellref06_After.j0, bluebellref06_After.j1, bluebellref06_After.j2, e1, e2]
  simp
  try (rw [w64 _ (by omega)])
  try omega
theorem after_ref17 (f1 f2 d : Int) (k : Nat) (h1 : Small f1) (h2 : Small f2) (h3 : Small d) : bluebellref06_After.f (k + 3) 17 f1 f2 d = some (afterI ⟨17, f1, f2⟩ d (kindAt 17)) := by
  have e1 : (kindAt 17).f2 = 1 := by kernel_rfl
  have e2 : (kindAt 17).f3 = 1 := by kernel_rfl
  unfold Small at *
  unfold bluebellref06_After.f afterI
  simp only [bluebellref06_After.j0, bluebellref06_After.j1, bluebellref06_After.j2, e1, e2]
  simp
  try (rw [w64 _ (by omega)])
  try omega
theorem after_ref18 (f1 f2 d : Int) (k : Nat) (h1 : Small f1) (h2 : Small f2) (h3 : Small d) : bluebellref06_After.f (k + 3) 18 f1 f2 d = some (afterI ⟨18, f1, f2⟩ d (kindAt 18)) := by
  have e1 : (kindAt 18).f2 = 0 := by kernel_rfl
  have e2 : (kindAt 18).f3 = 0 := by kernel_rfl
  unfold Small at *
  unfold bluebellref06_After.f afterI
  simp only [bluebellref06_After.j0, bluebellref06_After.j1, bluebellref06_After.j2, e1, e2]
  simp
  try (rw [w64 _ (by omega)])
  try omega
theorem after_ref19 (f1 f2 d : Int) (k : Nat) (h1 : Small f1) (h2 : Small f2) (h3 : Small d) : bluebellref06_After.f (k + 3) 19 f1 f2 d = some (afterI ⟨19, f1, f2⟩ d (kindAt 19)) := by
  have e1 : (kindAt 19).f2 = 0 := by kernel_rfl
  have e2 : (kindAt 19).f3 = 0 := by kernel_rfl
  unfold Small at *
  unfold bluebellref06_After.f afterI
  simp only [bluebellref06_After.j0, bluebellref06_After.j1, bluebellref06_After.j2, e1, e2]
  simp
  try (rw [w64 _ (by omega)])
  try omega
theorem after_ref20 (f1 f2 d : Int) (k : Nat) (h1 : Small f1) (h2 : Small f2) (h3 : Small d) : bluebellref06_After.f (k + 3) 20 f1 f2 d = some (afterI ⟨20, f1, f2⟩ d (kindAt 20)) := by
  have e1 : (kindAt 20).f2 = 0 := by kernel_rfl
  have e2 : (kindAt 20).f3 = 0 := by kernel_rfl
  unfold Small at *
  unfold bluebellref06_After.f afterI
  simp only [bluebellref06_After.j0, bluebellref06_After.j1, bluebellref06_After.j2, e1, e2]
  simp
  try (rw [w64 _ (by omega)])
  try omega
theorem after_ref21 (f1 f2 d : Int) (k : Nat) (h1 : Small f1) (h2 : Small f2) (h3 : Small d) : bluebellref06_After.f (k + 3) 21 f1 f2 d = some (afterI ⟨21, f1, f2⟩ d (kindAt 21)) := by
  have e1 : (kindAt 21).f2 = 1 := by kernel_rfl
  have e2 : (kindAt 21).f3 = 0 := by kernel_rfl
  unfold Small at *
  unfold bluebellref06_After.f afterI
  simp only [bluebellref06_After.j0, bluebellref06_After.j1, bluebellref06_After.j2, e1, e2]
  simp
  try (rw [w64 _ (by omega)])
  try omega
theorem after_ref22 (f1 f2 d : Int) (k : Nat) (h1 : Small f1) (h2 : Small f2) (h3 : Small d) : bluebellref06_After.f (k + 3) 22 f1 f2 d = some (afterI ⟨22, f1, f2⟩ d (kindAt 22)) := by
  have e1 : (kindAt 22).f2 = 1 := by kernel_rfl
  have e2 : (kindAt 22).f3 = 0 := by kernel_rfl
  unfold Small at *
  unfold bluebellref06_After.f afterI
  simp only [bluebellref06_After.j0, bluebellref06_After.j1, bluebellref06_After.j2, e1, e2]
  simp
  try (rw [w64 _ (by omega)])
  try omega
theorem after_ref23 (f1 f2 d : Int) (k : Nat) (h1 : Small f1) (h2 : Small f2) (h3 : Small d) : bluebellref06_After.f (k + 3) 23 f1 f2 d = some (afterI ⟨23, f1, f2⟩ d (kindAt 23)) := by
  have e1 : (kindAt 23).f2 = 0 := by kernel_rfl
  have e2 : (kindAt 23).f3 = 0 := by kernel_rfl
  unfold Small at *
  unfold bluebellref06_After.f afterI
  simp only [bluebellref06_After.j0, bluebellref06_After.j1, bluebellref06_After.j2, e1, e2]
  simp
  try (rw [w64 _ (by omega)])
  try omega
theorem after_ref24 (f1 f2 d : Int) (k : Nat) (h1 : Small f1) (h2 : Small f2) (h3 : Small d) : bluebellref06_After.f (k + 3) 24 f1 f2 d = some (afterI ⟨24, f1, f2⟩ d (kindAt 24)) := by
  have e1 : (kindAt 24).f2 = 0 := by kernel_rfl
  have e2 : (kindAt 24).f3 = 0 := by kernel_rfl
  unfold Small at *
  unfold bluebellref06_After.f afterI
  simp only [bluebellref06_After.j0, bluebellref06_After.j1, bluebellref06_After.j2, e1, e2]
  simp
  try (rw [w64 _ (by omega)])
  try omega
theorem after_ref25 (f1 f2 d : Int) (k : Nat) (h1 : Small f1) (h2 : Small f2) (h3 : Small d) : bluebellref06_After.f (k + 3) 25 f1 f2 d = some (afterI ⟨25, f1, f2⟩ d (kindAt 25)) := by
  have e1 : (kindAt 25).f2 = 1 := by kernel_rfl
  have e2 : (kindAt 25).f3 = 0 := by kernel_rfl
  unfold Small at *
  unfold bluebellref06_After.f afterI
  simp only [bluebellref06_After.j0, bluebellref06_After.j1, bluebellref06_After.j2, e1, e2]
  simp
  try (rw [w64 _ (by omega)])
  try omega
theorem after_ref26 (f1 f2 d : Int) (k : Nat) (h1 : Small f1) (h2 : Small f2) (h3 : Small d) : bluebellref06_After.f (k + 3) 26 f1 f2 d = some (afterI ⟨26, f1, f2⟩ d (kindAt 26)) := by
  have e1 : (kindAt 26).f2 = 0 := by kernel_rfl
  have e2 : (kindAt 26).f3 = 0 := by kernel_rfl
  unfold Small at *
  unfold bluebellref06_After.f afterI
  simp only [bluebellref06_After.j0, bluebellref06_After.j1, bluebellref06_After.j2, e1, e2]
  simp
  try (rw [w64 _ (by omega)])
  try omega
theorem after_ref27 (f1 f2 d : Int) (k : Nat) (h1 : Small f1) (h2 : Small f2) (h3 : Small d) : bluebellref06_After.f (k + 3) 27 f1 f2 d = some (afterI ⟨27, f1, f2⟩ d (kindAt 27)) := by
  have e1 : (kindAt 27).f2 = 1 := by kernel_rfl
  have e2 : (kindAt 27).f3 = 0 := by kernel_rfl
  unfold Small at *
  unfold bluebellref06_After.f afterI
  simp only [bluebellref06_After.j0, bluebellref06_After.j1, bluebellref06_After.j2, e1, e2]
  simp
  try (rw [w64 _ (by omega)])
  try omega
theorem after_ref28 (f1 f2 d : Int) (k : Nat) (h1 : Small f1) (h2 : Small f2) (h3 : Small d) : bluebellref06_After.f (k + 3) 28 f1 f2 d = some (afterI ⟨28, f1, f2⟩ d (kindAt 28)) := by
  have e1 : (kindAt 28).f2 = 0 := by kernel_rfl
  have e2 : (kindAt 28).f3 = 0 := by kernel_rfl
  unfold Small at *
  unfold bluebellref06_After.f afterI
  simp only [bluebellref06_After.j0, bluebellref06_After.j1, bluebellref06_After.j2, e1, e2]
  simp
  try (rw [w64 _ (by omega)])
  try omega
theorem after_ref29 (f1 f2 d : Int) (k : Nat) (h1 : Small f1) (h2 : Small f2) (h3 : Small d) : bluebellref06_After.f (k + 3) 29 f1 f2 d = some (afterI ⟨29, f1, f2⟩ d (kindAt 29)) := by
  have e1 : (kindAt 29).f2 = 1 := by kernel_rfl
  have e2 : (kindAt 29).f3 = 0 := by kernel_rfl
  unfold Small at *
  unfold bluebellref06_After.f afterI
  simp only [bluebellref06_After.j0, bluebellref06_After.j1, bluebellref06_After.j2, e1, e2]
  simp
  try (rw [w64 _ (by omega)])
  try omega
theorem after_ref30 (f1 f2 d : Int) (k : Nat) (h1 : Small f1) (h2 : Small f2) (h3 : Small d) : bluebellref06_After.f (k + 3) 30 f1 f2 d = some (afterI ⟨30, f1, f2⟩ d (kindAt 30)) := by
  have e1 : (kindAt 30).f2 = 0 := by kernel_rfl
  have e2 : (kindAt 30).f3 = 0 := by kernel_rfl
  unfold Small at *
  unfold bluebellref06_After.f afterI
  simp only [bluebellref06_After.j0, bluebellref06_After.j1, bluebellref06_After.j2, e1, e2]
  simp
  try (rw [w64 _ (by omega)])
  try omega
theorem after_refk {c : Cod} {o : S35} (h : opOk c o = true) (d : Int) (k : Nat) (hk : 3 ≤ k) (h1 : Small o.f1) (h2 : Small o.f2) (h3 : Small d) : bluebellref06_After.f k o.f0 o.f1 o.f2 d = some (afterI o d (kindAt o.f0)) := by
  obtain ⟨k, rfl⟩ : ∃ m, k = m + 3 := ⟨k - 3, by omega⟩
  have ha := of_decide_eq_true (and2 (and2 h).1).1
  have hb := of_decide_eq_true (and2 (and2 h).1).2
  obtain ⟨f0, f1, f2⟩ := o
  change 1 ≤ f0 at ha
  change f0 < 31 at hb
  change bluebellref06_After.f (k + 3) f0 f1 f2 d = some (afterI ⟨f0, f1, f2⟩ d (kindAt f0))
  change Small f1 at h1
  change Small f2 at h2
  by_cases c1 : f0 = 1
  · subst c1; exact after_ref1 f1 f2 d k h1 h2 h3
  by_cases c2 : f0 = 2
  · subst c2; exact after_ref2 f1 f2 d k h1 h2 h3
  by_cases c3 : f0 = 3
  · subst c3; exact after_ref3 f1 f2 d k h1 h2 h3
  by_cases c4 : f0 = 4
  · subst c4; exact after_ref4 f1 f2 d k h1 h2 h3
  by_cases c5 : f0 = 5
  · subst c5; exact after_ref5 f1 f2 d k h1 h2 h3
  by_cases c6 : f0 = 6
  · subst c6; exact after_ref6 f1 f2 d k h1 h2 h3
  by_cases c7 : f0 = 7
  · subst c7; exact after_ref7 f1 f2 d k h1 h2 h3
  by_cases c8 : f0 = 8
  · subst c8; exact after_ref8 f1 f2 d k h1 h2 h3
  by_cases c9 : f0 = 9
  · subst c9; exact after_ref9 f1 f2 d k h1 h2 h3
  by_cases c10 : f0 = 10
  · subst c10; exact after_ref10 f1 f2 d k h1 h2 h3
  by_cases c11 : f0 = 11
  · subst c11; exact after_ref11 f1 f2 d k h1 h2 h3
  by_cases c12 : f0 = 12
  · subst c12; exact after_ref12 f1 f2 d k h1 h2 h3
  by_cases c13 : f0 = 13
  · subst c13; exact after_ref13 f1 f2 d k h1 h2 h3
  by_cases c14 : f0 = 14
  · subst c14; exact after_ref14 f1 f2 d k h1 h2 h3
  by_cases c15 : f0 = 15
  · subst c15; exact after_ref15 f1 f2 d k h1 h2 h3
  by_cases c16 : f0 = 16
  · subst c16; exact after_ref16 f1 f2 d k h1 h2 h3
  by_cases c17 : f0 = 17
  · subst c17; exact after_ref17 f1 f2 d k h1 h2 h3
  by_cases c18 : f0 = 18
  · subst c18; exact after_ref18 f1 f2 d k h1 h2 h3
  by_cases c19 : f0 = 19
  · subst c19; exact after_ref19 f1 f2 d k h1 h2 h3
  by_cases c20 : f0 = 20
  · subst c20; exact after_ref20 f1 f2 d k h1 h2 h3
  by_cases c21 : f0 = 21
  · subst c21; exact after_ref21 f1 f2 d k h1 h2 h3
  by_cases c22 : f0 = 22
  · subst c22; exact after_ref22 f1 f2 d k h1 h2 h3
  by_cases c23 : f0 = 23
  · subst c23; exact after_ref23 f1 f2 d k h1 h2 h3
  by_cases c24 : f0 = 24
  · subst c24; exact after_ref24 f1 f2 d k h1 h2 h3
  by_cases c25 : f0 = 25
  · subst c25; exact after_ref25 f1 f2 d k h1 h2 h3
  by_cases c26 : f0 = 26
  · subst c26; exact after_ref26 f1 f2 d k h1 h2 h3
  by_cases c27 : f0 = 27
  · subst c27; exact after_ref27 f1 f2 d k h1 h2 h3
  by_cases c28 : f0 = 28
  · subst c28; exact after_ref28 f1 f2 d k h1 h2 h3
  by_cases c29 : f0 = 29
  · subst c29; exact after_ref29 f1 f2 d k h1 h2 h3
  by_cases c30 : f0 = 30
  · subst c30; exact after_ref30 f1 f2 d k h1 h2 h3
  omega
end Go.Proofs.Ytkmcanknbdaliaa.Lx
