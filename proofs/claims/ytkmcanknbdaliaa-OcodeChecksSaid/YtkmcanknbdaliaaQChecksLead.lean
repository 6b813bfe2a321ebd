/- Where labels lead: in code whose order is as said, behind labels there is an instruction. -/
import Derived.Test.YtkmcanknbdaliaaQChecksCoded
namespace Go.Proofs.Ytkmcanknbdaliaa.Lx
open Go Go.RowKit Go.Proofs.YtkmcanknbdaliaaW.PrintWords Go.Proofs.YtkmcanknbdaliaaW.PrintLast Go.Proofs.YtkmcanknbdaliaaW.PrintMore Go.Proofs.Ytkmcanknbdaliaa.PO
theorem casesB_at {l : List Op} {i n j : Nat} (h : casesB l i n = true) (hj : j < n) : i + j < l.length ∧ (opAt l (i + j)).f0 = 30 := by
 have := and2 (List.all_eq_true.1 h j (List.mem_range.2 hj))
 exact ⟨of_decide_eq_true this.1, beq_iff_eq.1 this.2⟩
/-- A label has an instruction behind it. -/
theorem order_label (l : List Op) : ∀ (n i : Nat), l.length - i ≤ n → orderGo l i = true → ∀ j, i ≤ j → j < l.length → (opAt l j).f0 = 19 → j + 1 < l.length
 | 0, i, hn, _, j, h1, h2, _ => absurd h2 (by omega)
 | n + 1, i, hn, h, j, h1, h2, h19 => by
  have hi : i < l.length := by omega
  rw [orderGo, if_pos hi] at h
  by_cases a : (opAt l i).f0 = 29
  ·rw [if_pos a] at h
   have h3 := and2 h
   have h4 := and2 h3.1
   have h5 := and2 h4.1
   by_cases e : j ≤ i + (opAt l i).f2.toNat
   ·by_cases e2 : j = i
    ·subst e2
     rw [a] at h19
     exact absurd h19 (by decide)
    ·have := casesB_at h5.1 (show j - (i + 1) < (opAt l i).f2.toNat by omega)
     rw [show i + 1 + (j - (i + 1)) = j by omega] at this
     rw [this.2] at h19
     exact absurd h19 (by decide)
   ·exact order_label l n _ (by omega) h3.2 j (by omega) h2 h19
  ·rw [if_neg a] at h
   by_cases b : (opAt l i).f0 = 30
   ·rw [if_pos b] at h
    exact absurd h (by decide)
   ·rw [if_neg b] at h
    by_cases c : (opAt l i).f0 = 19
    ·rw [if_pos c] at h
     have h3 := and2 h
     by_cases e : j = i
     ·subst e
      have h4 := and2 h3.1
      exact of_decide_eq_true (and2 h4.1).1
     ·exact order_label l n _ (by omega) h3.2 j (by omega) h2 h19
    ·rw [if_neg c] at h
     have h3 := and2 h
     by_cases e : j = i
     ·subst e
      exact absurd h19 c
     ·exact order_label l n _ (by omega) h3.2 j (by omega) h2 h19
theorem leads_some (l : List Op) (h : orderB l = true) : ∀ (n i : Nat), l.length - i ≤ n → i < l.length → ∃ j, leadsL (l.drop i) i = some j ∧ j < l.length
 | 0, i, hn, hi => absurd hi (by omega)
 | n + 1, i, hn, hi => by
  rw [drop_opAt l i hi, leadsL]
  by_cases a : (opAt l i).f0 = 19
  ·rw [if_pos a]
   exact leads_some l h n (i + 1) (by omega) (order_label l l.length 0 (by omega) h i (by omega) hi a)
  ·rw [if_neg a]
   exact ⟨i, rfl, hi⟩
def leadOp (l : List Op) (i : Nat) : Op := opAt l ((leadsL (l.drop i) i).getD 0)
end Go.Proofs.Ytkmcanknbdaliaa.Lx
