/- The reference's look at an instruction's numbers is the program's. -/
import Derived.Test.YtkmcanknbdaliaaQChecksCheck
import Derived.Test.YtkmcanknbdaliaaQChecks1
namespace Go.Proofs.Ytkmcanknbdaliaa.Lx
open Go Go.RowKit Go.Proofs.YtkmcanknbdaliaaW.PrintWords Go.Proofs.YtkmcanknbdaliaaW.PrintLast Go.Proofs.YtkmcanknbdaliaaW.PrintMore Go.Proofs.Ytkmcanknbdaliaa.PO
set_option linter.unusedSimpArgs false
set_option linter.unusedVariables false
theorem in_ref (v lo hi : Int) : bluebellref06_in.f v lo hi = some (inB v lo hi) := by
 unfold bluebellref06_in.f inB
 by_cases h : v ≥ lo
 ·rw [if_pos h, decide_eq_true (show lo ≤ v from h), Bool.true_and]
 ·rw [if_neg h, decide_eq_false (show ¬ lo ≤ v from h), Bool.false_and]
def in32 (v : Int) : Bool := inB v (-2147483648) 2147483647
theorem in32_of {v : Int} (h : -2147483648 ≤ v ∧ v ≤ 2147483647) : in32 v = true := by
 unfold in32 inB
 rw [decide_eq_true h.1, decide_eq_true h.2]
 rfl
theorem op_32 {c : Cod} {o : S35} (h : opOk c o = true) (hp : c.procs ≤ 200) (hl : c.labels ≤ 20000) (hd : c.data.length ≤ 1000000) : in32 o.f1 = true ∧ in32 o.f2 = true := by
 have hn := and2 (opOk_num h)
 constructor
 ·refine in32_of ?_
  have h1 := hn.1
  unfold numOk at h1
  generalize (kindAt o.f0).f1 = n at h1
  by_cases c0 : n = 0
  ·rw [if_pos c0] at h1
   have := beq_iff_eq.1 h1
   omega
  rw [if_neg c0] at h1
  by_cases c1 : n = 1
  ·rw [if_pos c1] at h1
   exact inB_iff (show inB o.f1 (-2147483648) 2147483647 = true from h1)
  rw [if_neg c1] at h1
  by_cases c2 : n = 2
  ·rw [if_pos c2] at h1
   have := inB_iff h1
   omega
  rw [if_neg c2] at h1
  by_cases c3 : n = 3
  ·rw [if_pos c3] at h1
   have := inB_iff h1
   omega
  rw [if_neg c3] at h1
  by_cases c4 : n = 4
  ·rw [if_pos c4] at h1
   have := inB_iff h1
   omega
  rw [if_neg c4] at h1
  by_cases c5 : n = 5
  ·rw [if_pos c5] at h1
   have := inB_iff h1
   omega
  rw [if_neg c5] at h1
  by_cases c6 : n = 6
  ·rw [if_pos c6] at h1
   have := inB_iff h1
   omega
  rw [if_neg c6] at h1
  by_cases c7 : n = 7
  ·rw [if_pos c7] at h1
   have := inB_iff h1
   omega
  rw [if_neg c7] at h1
  by_cases c8 : n = 8
  ·rw [if_pos c8] at h1
   rcases Bool.or_eq_true_iff.1 h1 with h | h
   ·have := beq_iff_eq.1 h
    omega
   ·have := beq_iff_eq.1 h
    omega
  rw [if_neg c8] at h1
  exact absurd h1 (by decide)
 ·refine in32_of ?_
  have h1 := hn.2
  by_cases c0 : o.f0 = 24
  ·rw [if_pos c0] at h1
   have := inB_iff h1
   omega
  rw [if_neg c0] at h1
  by_cases c1 : o.f0 = 29
  ·rw [if_pos c1] at h1
   have := inB_iff h1
   omega
  rw [if_neg c1] at h1
  by_cases c2 : o.f0 = 30
  ·rw [if_pos c2] at h1
   have := inB_iff h1
   omega
  rw [if_neg c2] at h1
  have := beq_iff_eq.1 h1
  omega
/-- What the reference tells of the numbers of an instruction of a kind. -/
def NumAt (N v : Int) : Prop := ∀ (c : Cod) (f1 f2 : Int) (k : Nat), (kindAt N).f1 = v → inB N 1 30 = true → in32 f1 = true → in32 f2 = true → c.data.length ≤ 1000000 → bluebellref06_numbers.f (k + 7) c.name c.data c.ops c.gl c.procs c.labels N f1 f2 = some (numbersB ⟨N, f1, f2⟩ c (kindAt N))
set_option maxHeartbeats 40000000 in
theorem num_all : NumAt 1 1 ∧ NumAt 2 2 ∧ NumAt 3 2 ∧ NumAt 4 2 ∧ NumAt 5 3 ∧ NumAt 6 3 ∧ NumAt 7 3 ∧ NumAt 8 4 ∧ NumAt 9 4 ∧ NumAt 10 4 ∧ NumAt 11 5 ∧ NumAt 12 0 ∧ NumAt 13 0 ∧ NumAt 14 0 ∧ NumAt 15 0 ∧ NumAt 16 7 ∧ NumAt 17 8 ∧ NumAt 18 2 ∧ NumAt 19 6 ∧ NumAt 20 6 ∧ NumAt 21 6 ∧ NumAt 22 6 ∧ NumAt 23 2 ∧ NumAt 24 5 ∧ NumAt 25 0 ∧ NumAt 26 0 ∧ NumAt 27 6 ∧ NumAt 28 2 ∧ NumAt 29 6 ∧ NumAt 30 1 := by
 refine ⟨?_, ?_, ?_, ?_, ?_, ?_, ?_, ?_, ?_, ?_, ?_, ?_, ?_, ?_, ?_, ?_, ?_, ?_, ?_, ?_, ?_, ?_, ?_, ?_, ?_, ?_, ?_, ?_, ?_, ?_⟩ <;> (
  intro c f1 f2 k e1 e3 h1 h2 hd
  have h1' : inB f1 (-2147483648) 2147483647 = true := h1
  have h2' : inB f2 (-2147483648) 2147483647 = true := h2
  have e4 := w64 ((c.data.length : Int) - 1) (by omega)
  unfold bluebellref06_numbers.f numbersB numOk
  simp only [in_ref, e1, h1', h2', e3, e4, Option.bind_some, bluebellref06_numbers.j0, bluebellref06_numbers.j1, bluebellref06_numbers.j2, bluebellref06_numbers.j3, bluebellref06_numbers.j4, bluebellref06_numbers.j5]
  generalize inB f1 0 4000 = x1
  generalize inB f1 0 199 = x2
  generalize inB f1 0 (↑c.data.length - 1) = x3
  generalize inB f1 1 c.procs = x4
  generalize inB f1 1 c.labels = x5
  generalize inB f2 1 c.labels = x6
  generalize inB f2 0 8 = x7
  generalize inB f2 0 1000 = x8
  generalize inB f1 1 17 = x9
  clear h1 e1 e3 e4
  cases q : f2 == 0 <;> cases q2 : f1 == 0 <;> simp_all [wideB, bne]
  all_goals (try (cases x4 <;> cases x5 <;> cases x7 <;> cases x8 <;> simp_all))
  all_goals (try (by_cases g : f1 = 18 <;> simp [g])))
theorem numbers_ref (c : Cod) (o : S35) (k : Nat) (hk : 7 ≤ k) (hp : c.procs ≤ 200) (hl : c.labels ≤ 20000) (hd : c.data.length ≤ 1000000) : bluebellref06_numbers.f k c.name c.data c.ops c.gl c.procs c.labels o.f0 o.f1 o.f2 = some (opOk c o) := by
 obtain ⟨k, rfl⟩ : ∃ m, k = m + 7 := ⟨k - 7, by omega⟩
 obtain ⟨f0, f1, f2⟩ := o
 change bluebellref06_numbers.f (k + 7) c.name c.data c.ops c.gl c.procs c.labels f0 f1 f2 = some (opOk c ⟨f0, f1, f2⟩)
 cases hr : (inB f0 1 30) with
 | false =>
  have hn : opOk c ⟨f0, f1, f2⟩ = false := by
   unfold inB at hr
   unfold opOk
   by_cases g : 1 ≤ f0
   ·rw [decide_eq_true g, Bool.true_and] at hr
    rw [decide_eq_false (show ¬ f0 < 31 by have := of_decide_eq_false hr; omega), Bool.and_false, Bool.false_and]
   ·rw [decide_eq_false g, Bool.false_and, Bool.false_and]
  rw [hn]
  unfold bluebellref06_numbers.f
  rw [in_ref, hr, Option.bind_some, if_neg (by decide)]
  simp only [bluebellref06_numbers.j0]
  rfl
 | true =>
  have hr2 := inB_iff hr
  cases h1 : in32 f1 with
  | false =>
   have hn : opOk c ⟨f0, f1, f2⟩ = false := by
    cases e : opOk c ⟨f0, f1, f2⟩ with
    | true => have := (op_32 e hp hl hd).1; rw [show in32 (⟨f0, f1, f2⟩ : S35).f1 = in32 f1 from rfl, h1] at this; exact absurd this (by decide)
    | false => rfl
   rw [hn]
   unfold bluebellref06_numbers.f
   rw [in_ref, hr, Option.bind_some, if_pos rfl, in_ref, show inB f1 (-2147483648) 2147483647 = false from h1, Option.bind_some, if_neg (by decide)]
   simp only [bluebellref06_numbers.j0]
   rfl
  | true =>
   cases h2 : in32 f2 with
   | false =>
    have hn : opOk c ⟨f0, f1, f2⟩ = false := by
     cases e : opOk c ⟨f0, f1, f2⟩ with
     | true => have := (op_32 e hp hl hd).2; rw [show in32 (⟨f0, f1, f2⟩ : S35).f2 = in32 f2 from rfl, h2] at this; exact absurd this (by decide)
     | false => rfl
    rw [hn]
    unfold bluebellref06_numbers.f
    rw [in_ref, hr, Option.bind_some, if_pos rfl, in_ref, show inB f1 (-2147483648) 2147483647 = true from h1, Option.bind_some, if_pos rfl, in_ref, show inB f2 (-2147483648) 2147483647 = false from h2, Option.bind_some]
    simp only [bluebellref06_numbers.j0]
    rfl
   | true =>
    have hop : opOk c ⟨f0, f1, f2⟩ = numbersB ⟨f0, f1, f2⟩ c (kindAt f0) := by
     unfold opOk
     rw [decide_eq_true hr2.1, decide_eq_true (show f0 < 31 by omega)]
     rfl
    rw [hop]
    obtain ⟨a1, a2, a3, a4, a5, a6, a7, a8, a9, a10, a11, a12, a13, a14, a15, a16, a17, a18, a19, a20, a21, a22, a23, a24, a25, a26, a27, a28, a29, a30⟩ := num_all
    have : f0 = 1 ∨ f0 = 2 ∨ f0 = 3 ∨ f0 = 4 ∨ f0 = 5 ∨ f0 = 6 ∨ f0 = 7 ∨ f0 = 8 ∨ f0 = 9 ∨ f0 = 10 ∨ f0 = 11 ∨ f0 = 12 ∨ f0 = 13 ∨ f0 = 14 ∨ f0 = 15 ∨ f0 = 16 ∨ f0 = 17 ∨ f0 = 18 ∨ f0 = 19 ∨ f0 = 20 ∨ f0 = 21 ∨ f0 = 22 ∨ f0 = 23 ∨ f0 = 24 ∨ f0 = 25 ∨ f0 = 26 ∨ f0 = 27 ∨ f0 = 28 ∨ f0 = 29 ∨ f0 = 30 := by omega
    rcases this with e | e | e | e | e | e | e | e | e | e | e | e | e | e | e | e | e | e | e | e | e | e | e | e | e | e | e | e | e | e <;> subst e
    ·exact a1 c f1 f2 k (by kernel_rfl) hr h1 h2 hd
    ·exact a2 c f1 f2 k (by kernel_rfl) hr h1 h2 hd
    ·exact a3 c f1 f2 k (by kernel_rfl) hr h1 h2 hd
    ·exact a4 c f1 f2 k (by kernel_rfl) hr h1 h2 hd
    ·exact a5 c f1 f2 k (by kernel_rfl) hr h1 h2 hd
    ·exact a6 c f1 f2 k (by kernel_rfl) hr h1 h2 hd
    ·exact a7 c f1 f2 k (by kernel_rfl) hr h1 h2 hd
    ·exact a8 c f1 f2 k (by kernel_rfl) hr h1 h2 hd
    ·exact a9 c f1 f2 k (by kernel_rfl) hr h1 h2 hd
    ·exact a10 c f1 f2 k (by kernel_rfl) hr h1 h2 hd
    ·exact a11 c f1 f2 k (by kernel_rfl) hr h1 h2 hd
    ·exact a12 c f1 f2 k (by kernel_rfl) hr h1 h2 hd
    ·exact a13 c f1 f2 k (by kernel_rfl) hr h1 h2 hd
    ·exact a14 c f1 f2 k (by kernel_rfl) hr h1 h2 hd
    ·exact a15 c f1 f2 k (by kernel_rfl) hr h1 h2 hd
    ·exact a16 c f1 f2 k (by kernel_rfl) hr h1 h2 hd
    ·exact a17 c f1 f2 k (by kernel_rfl) hr h1 h2 hd
    ·exact a18 c f1 f2 k (by kernel_rfl) hr h1 h2 hd
    ·exact a19 c f1 f2 k (by kernel_rfl) hr h1 h2 hd
    ·exact a20 c f1 f2 k (by kernel_rfl) hr h1 h2 hd
    ·exact a21 c f1 f2 k (by kernel_rfl) hr h1 h2 hd
    ·exact a22 c f1 f2 k (by kernel_rfl) hr h1 h2 hd
    ·exact a23 c f1 f2 k (by kernel_rfl) hr h1 h2 hd
    ·exact a24 c f1 f2 k (by kernel_rfl) hr h1 h2 hd
    ·exact a25 c f1 f2 k (by kernel_rfl) hr h1 h2 hd
    ·exact a26 c f1 f2 k (by kernel_rfl) hr h1 h2 hd
    ·exact a27 c f1 f2 k (by kernel_rfl) hr h1 h2 hd
    ·exact a28 c f1 f2 k (by kernel_rfl) hr h1 h2 hd
    ·exact a29 c f1 f2 k (by kernel_rfl) hr h1 h2 hd
    ·exact a30 c f1 f2 k (by kernel_rfl) hr h1 h2 hd
end Go.Proofs.Ytkmcanknbdaliaa.Lx
