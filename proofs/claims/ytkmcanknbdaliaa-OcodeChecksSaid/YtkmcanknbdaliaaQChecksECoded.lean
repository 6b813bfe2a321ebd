/- The contract of ocode.coded in the printer's form. -/
import Derived.Test.YtkmcanknbdaliaaQChecksFine
namespace Go.Proofs.Ytkmcanknbdaliaa.PO
open Go Go.RowKit Go.Proofs.YtkmcanknbdaliaaW.PrintWords Go.Proofs.YtkmcanknbdaliaaW.PrintLast Go.Proofs.YtkmcanknbdaliaaW.PrintMore Go.Proofs.Ytkmcanknbdaliaa.Lx
def ocode_coded.f (a0_0 : ByteArray) (l0_1 : List S47) (l0_2 : List S35) (l0_3 : List S68) (a0_4 : Int) (a0_5 : Int) : Option (Bool) :=
 if (fineB ⟨a0_0, l0_1, l0_2, l0_3, a0_4, a0_5⟩ && decide (a0_5 ≤ 1000000)) = true then some (codedB ⟨a0_0, l0_1, l0_2, l0_3, a0_4, a0_5⟩) else none
theorem ocode_coded.calls (a0_0 : ByteArray) (A0_1 : Option Addr) (c0_1 : Nat) (l0_1 : List S47) (A0_2 : Option Addr) (c0_2 : Nat) (l0_2 : List S35) (A0_3 : Option Addr) (c0_3 : Nat) (l0_3 : List S68) (a0_4 : Int) (a0_5 : Int) (r : Bool) (w : World) (hr0_1 : Kd.C k47 w A0_1 l0_1.length l0_1) (hc0_1 : l0_1.length ≤ c0_1) (hr0_2 : Kd.C k35 w A0_2 l0_2.length l0_2) (hc0_2 : l0_2.length ≤ c0_2) (hr0_3 : Kd.C k68 w A0_3 l0_3.length l0_3) (hc0_3 : l0_3.length ≤ c0_3) (h : ocode_coded.f a0_0 l0_1 l0_2 l0_3 a0_4 a0_5 = some r) :
  Calls Try.prog 40 #[.agg #[.string a0_0, .slice A0_1 l0_1.length c0_1, .slice A0_2 l0_2.length c0_2, .slice A0_3 l0_3.length c0_3, .int .i64 a0_4, .int .i64 a0_5]] w fun e w' => e = .returned (.bool r) ∧ Below w.heap.size w w' := by
 unfold ocode_coded.f at h
 by_cases g : (fineB ⟨a0_0, l0_1, l0_2, l0_3, a0_4, a0_5⟩ && decide (a0_5 ≤ 1000000)) = true
 ·rw [if_pos g] at h
  injection h with h
  subst h
  obtain ⟨g1, g2⟩ := and2 g
  exact coded_calls ⟨a0_0, l0_1, l0_2, l0_3, a0_4, a0_5⟩ ⟨A0_1, c0_1, A0_2, c0_2, A0_3, c0_3⟩ w ⟨hr0_1, hc0_1, hr0_2, hc0_2, hr0_3, hc0_3⟩ (((fine_iff _).1 g1).coded (of_decide_eq_true g2))
 ·rw [if_neg g] at h
  exact absurd h (by simp)
end Go.Proofs.Ytkmcanknbdaliaa.PO
