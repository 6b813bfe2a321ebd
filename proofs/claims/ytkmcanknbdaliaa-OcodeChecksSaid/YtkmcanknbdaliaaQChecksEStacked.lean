/- The contract of ocode.stacked in the printer's form. -/
import Derived.Test.YtkmcanknbdaliaaQChecksFine
import Derived.Test.YtkmcanknbdaliaaQChecksStacked
namespace Go.Proofs.Ytkmcanknbdaliaa.PO
open Go Go.RowKit Go.Proofs.YtkmcanknbdaliaaW.PrintWords Go.Proofs.YtkmcanknbdaliaaW.PrintLast Go.Proofs.YtkmcanknbdaliaaW.PrintMore Go.Proofs.Ytkmcanknbdaliaa.Lx
def ocode_stacked.f (a0_0 : ByteArray) (l0_1 : List S47) (l0_2 : List S35) (l0_3 : List S68) (a0_4 : Int) (a0_5 : Int) : Option (Bool) :=
 if (fineB ⟨a0_0, l0_1, l0_2, l0_3, a0_4, a0_5⟩ && decide (a0_5 ≤ 1000000) && decide (a0_4 ≤ 1000000) && codedB ⟨a0_0, l0_1, l0_2, l0_3, a0_4, a0_5⟩) = true then some (stackedB ⟨a0_0, l0_1, l0_2, l0_3, a0_4, a0_5⟩) else none
theorem stack_ok {c : Cod} (h : Fine c) (hl : c.labels ≤ 1000000) (hp : c.procs ≤ 1000000) (hc : codedB c = true) : StackOk c := by
 unfold codedB at hc
 simp only [Bool.and_eq_true_iff, decide_eq_true_iff] at hc
 obtain ⟨⟨⟨⟨⟨⟨⟨h1, h2⟩, h3⟩, h4⟩, h5⟩, h6⟩, h7⟩, h8⟩ := hc
 exact ⟨h.coded hl, hp, h3, h4, h5, h6⟩
theorem ocode_stacked.calls (a0_0 : ByteArray) (A0_1 : Option Addr) (c0_1 : Nat) (l0_1 : List S47) (A0_2 : Option Addr) (c0_2 : Nat) (l0_2 : List S35) (A0_3 : Option Addr) (c0_3 : Nat) (l0_3 : List S68) (a0_4 : Int) (a0_5 : Int) (r : Bool) (w : World) (hr0_1 : Kd.C k47 w A0_1 l0_1.length l0_1) (hc0_1 : l0_1.length ≤ c0_1) (hr0_2 : Kd.C k35 w A0_2 l0_2.length l0_2) (hc0_2 : l0_2.length ≤ c0_2) (hr0_3 : Kd.C k68 w A0_3 l0_3.length l0_3) (hc0_3 : l0_3.length ≤ c0_3) (h : ocode_stacked.f a0_0 l0_1 l0_2 l0_3 a0_4 a0_5 = some r) :
  Calls Try.prog 41 #[.agg #[.string a0_0, .slice A0_1 l0_1.length c0_1, .slice A0_2 l0_2.length c0_2, .slice A0_3 l0_3.length c0_3, .int .i64 a0_4, .int .i64 a0_5]] w fun e w' => e = .returned (.bool r) ∧ Below w.heap.size w w' := by
 unfold ocode_stacked.f at h
 by_cases g : (fineB ⟨a0_0, l0_1, l0_2, l0_3, a0_4, a0_5⟩ && decide (a0_5 ≤ 1000000) && decide (a0_4 ≤ 1000000) && codedB ⟨a0_0, l0_1, l0_2, l0_3, a0_4, a0_5⟩) = true
 ·rw [if_pos g] at h
  injection h with h
  subst h
  obtain ⟨g1, g2⟩ := and2 g
  obtain ⟨g1, g3⟩ := and2 g1
  obtain ⟨g1, g4⟩ := and2 g1
  exact stacked_calls ⟨a0_0, l0_1, l0_2, l0_3, a0_4, a0_5⟩ ⟨A0_1, c0_1, A0_2, c0_2, A0_3, c0_3⟩ w ⟨hr0_1, hc0_1, hr0_2, hc0_2, hr0_3, hc0_3⟩ (stack_ok ((fine_iff _).1 g1) (of_decide_eq_true g4) (of_decide_eq_true g3) g2)
 ·rw [if_neg g] at h
  exact absurd h (by simp)
end Go.Proofs.Ytkmcanknbdaliaa.PO
