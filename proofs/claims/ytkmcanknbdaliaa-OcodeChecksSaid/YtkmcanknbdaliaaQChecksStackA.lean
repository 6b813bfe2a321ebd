/- What ocode.stacked answers, in plain words. -/
import Derived.Test.YtkmcanknbdaliaaQChecksLead
namespace Go.Proofs.Ytkmcanknbdaliaa.Lx
open Go Go.RowKit Go.Proofs.YtkmcanknbdaliaaW.PrintWords Go.Proofs.YtkmcanknbdaliaaW.PrintLast Go.Proofs.YtkmcanknbdaliaaW.PrintMore Go.Proofs.Ytkmcanknbdaliaa.PO
/-- Whether a jump and the place where it leads agree about results. -/
def jumpOk (l : List Op) (at_ : List Int) (o : Op) : Bool := !decide (namedI o > 0) || ((leadOp l (rd at_ (namedI o)).toNat).f0 == 28) == (o.f0 == 27)
/-- Whether an instruction goes on into a take. -/
def fallOk (l : List Op) (i : Nat) (o : Op) : Bool := !(!(o.f0 == 19) && !endsB l i && decide (i + 1 < l.length) && (leadOp l (i + 1)).f0 == 28)
def stackGo (l : List Op) (at_ : List Int) (i : Nat) (d : Int) : Bool :=
 if i < l.length then
  if (fitsB (opAt l i) d (kindAt (opAt l i).f0) (decide (0 < i) && (opAt l (i - 1)).f0 == 19) && decide (2 ≤ afterI (opAt l i) d (kindAt (opAt l i).f0)) && decide (afterI (opAt l i) d (kindAt (opAt l i).f0) ≤ 4000) && jumpOk l at_ (opAt l i) && fallOk l i (opAt l i)) = true
  then stackGo l at_ (i + 1) (afterI (opAt l i) d (kindAt (opAt l i).f0)) else false
 else true
termination_by l.length - i
def stackedB (c : Cod) : Bool := stackGo c.ops (placR c).1 0 0
theorem kind_small (n : Nat) (hn : n < 31) : Small (kindAt n).f2 ∧ Small (kindAt n).f3 := by
 have h : (List.range 31).all (fun n => decide (0 ≤ (kindAt (n : Nat)).f2) && decide ((kindAt (n : Nat)).f2 ≤ 9) && (decide (0 ≤ (kindAt (n : Nat)).f3) && decide ((kindAt (n : Nat)).f3 ≤ 9))) = true := by kernel_rfl
 have h1 := and2 (List.all_eq_true.1 h n (List.mem_range.2 hn))
 have h2 := and2 h1.1
 have h3 := and2 h1.2
 have a1 := of_decide_eq_true h2.1
 have a2 := of_decide_eq_true h2.2
 have a3 := of_decide_eq_true h3.1
 have a4 := of_decide_eq_true h3.2
 unfold Small
 omega
theorem inB_iff {v lo hi : Int} (h : inB v lo hi = true) : lo ≤ v ∧ v ≤ hi := ⟨of_decide_eq_true (and2 h).1, of_decide_eq_true (and2 h).2⟩
theorem op_small {c : Cod} {o : Op} (h : opOk c o = true) (hp : c.procs ≤ 1000000) (hl : c.labels ≤ 1000000) (hd : c.data.length ≤ 1000000) : Small o.f1 ∧ Small o.f2 := by
 have hn := and2 (opOk_num h)
 unfold Small
 constructor
 ·have h1 := hn.1
  unfold numOk at h1
  generalize (kindAt o.f0).f1 = n at h1
  by_cases c0 : n = 0
  ·rw [if_pos c0] at h1
   have := beq_iff_eq.1 h1
   omega
  rw [if_neg c0] at h1
  by_cases c1 : n = 1
  ·rw [if_pos c1] at h1
   have := inB_iff (show inB o.f1 (-2147483648) 2147483647 = true from h1)
   omega
  rw [if_neg c1] at h1
  by_cases c2 : n = 2
  ·rw [if_pos c2] at h1
   have := inB_iff h1
   omega
  rw [if_neg c2] at h1
  by_cases c3 : n = 3
  ·rw [if_pos c3] at h1
   have := inB_iff h1
   omega
  rw [if_neg c3] at h1
  by_cases c4 : n = 4
  ·rw [if_pos c4] at h1
   have := inB_iff h1
   omega
  rw [if_neg c4] at h1
  by_cases c5 : n = 5
  ·rw [if_pos c5] at h1
   have := inB_iff h1
   omega
  rw [if_neg c5] at h1
  by_cases c6 : n = 6
  ·rw [if_pos c6] at h1
   have := inB_iff h1
   omega
  rw [if_neg c6] at h1
  by_cases c7 : n = 7
  ·rw [if_pos c7] at h1
   have := inB_iff h1
   omega
  rw [if_neg c7] at h1
  by_cases c8 : n = 8
  ·rw [if_pos c8] at h1
   rcases Bool.or_eq_true_iff.1 h1 with h | h
   ·have := beq_iff_eq.1 h
    omega
   ·have := beq_iff_eq.1 h
    omega
  rw [if_neg c8] at h1
  exact absurd h1 (by decide)
 ·have h1 := hn.2
  by_cases c0 : o.f0 = 24
  ·rw [if_pos c0] at h1
   have := inB_iff h1
   omega
  rw [if_neg c0] at h1
  by_cases c1 : o.f0 = 29
  ·rw [if_pos c1] at h1
   have := inB_iff h1
   omega
  rw [if_neg c1] at h1
  by_cases c2 : o.f0 = 30
  ·rw [if_pos c2] at h1
   have := inB_iff h1
   omega
  rw [if_neg c2] at h1
  have := beq_iff_eq.1 h1
  omega
end Go.Proofs.Ytkmcanknbdaliaa.Lx
