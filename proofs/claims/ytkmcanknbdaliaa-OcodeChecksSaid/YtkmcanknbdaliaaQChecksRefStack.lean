/- The reference's depths are those of the program. -/
import Derived.Test.YtkmcanknbdaliaaQChecksRefDeep
namespace Go.Proofs.Ytkmcanknbdaliaa.Lx
open Go Go.RowKit Go.Proofs.YtkmcanknbdaliaaW.PrintWords Go.Proofs.YtkmcanknbdaliaaW.PrintLast Go.Proofs.YtkmcanknbdaliaaW.PrintMore Go.Proofs.Ytkmcanknbdaliaa.PO
/-- Behind a switch with cases there is a case. -/
theorem order_switch (l : List S35) : ∀ (n i : Nat), l.length - i ≤ n → orderGo l i = true → ∀ j, i ≤ j → j < l.length → (opAt l j).f0 = 29 → 0 < (opAt l j).f2.toNat → j + 1 < l.length ∧ (opAt l (j + 1)).f0 = 30
 | 0, i, hn, _, j, h1, h2, _, _ => absurd h2 (by omega)
 | n + 1, i, hn, h, j, h1, h2, h29, hpos => by
  have hi : i < l.length := by omega
  rw [orderGo, if_pos hi] at h
  by_cases a : (opAt l i).f0 = 29
  ·rw [if_pos a] at h
   have h3 := and2 h
   have h4 := and2 h3.1
   have h5 := and2 h4.1
   by_cases e : j ≤ i + (opAt l i).f2.toNat
   ·by_cases e2 : j = i
    ·subst e2
     have := casesB_at h5.1 hpos
     rwa [Nat.add_zero] at this
    ·have := casesB_at h5.1 (show j - (i + 1) < (opAt l i).f2.toNat by omega)
     rw [show i + 1 + (j - (i + 1)) = j by omega] at this
     rw [this.2] at h29
     exact absurd h29 (by decide)
   ·exact order_switch l n _ (by omega) h3.2 j (by omega) h2 h29 hpos
  ·rw [if_neg a] at h
   by_cases b : (opAt l i).f0 = 30
   ·rw [if_pos b] at h
    exact absurd h (by decide)
   ·rw [if_neg b] at h
    have hne : j ≠ i := fun e => a (e ▸ h29)
    by_cases c : (opAt l i).f0 = 19
    ·rw [if_pos c] at h
     exact order_switch l n _ (by omega) (and2 h).2 j (by omega) h2 h29 hpos
    ·rw [if_neg c] at h
     exact order_switch l n _ (by omega) (and2 h).2 j (by omega) h2 h29 hpos
theorem ends_goes (o : S35) (l : List S35) (i : Nat) (ho : opAt l i = o) (h1 : o.f0 ≠ 29) (h2 : o.f0 ≠ 30) : endsB l i = !goesB o := by
 subst ho
 unfold endsB goesB
 rw [if_neg h1, if_neg h2, if_neg h1, bne_iff_ne.2 h2]
 by_cases a : (opAt l i).f0 = 20
 ·rw [if_pos (.inl a), if_pos a]; rfl
 by_cases b : (opAt l i).f0 = 25
 ·rw [if_pos (.inr (.inl b)), if_neg a, if_pos b]; rfl
 by_cases c : (opAt l i).f0 = 26
 ·rw [if_pos (.inr (.inr (.inl c))), if_neg a, if_neg b, if_pos c]; rfl
 by_cases d : (opAt l i).f0 = 27
 ·rw [if_pos (.inr (.inr (.inr d))), if_neg a, if_neg b, if_neg c, if_pos d]; rfl
 rw [if_neg (by simp [a, b, c, d]), if_neg a, if_neg b, if_neg c, if_neg d]; rfl
/-- Going on into a take, as the program and the reference tell it. -/
theorem fall_goes (l : List S35) (ho : orderB l = true) (hsw : ∀ i, i < l.length → (opAt l i).f0 = 29 → 0 ≤ (opAt l i).f2) (i : Nat) (hi : i < l.length) (h : (opAt l i).f0 ≠ 19) :
  fallOk l i (opAt l i) = !(goesB (opAt l i) && (decide (i + 1 < l.length) && (leadOp l (i + 1)).f0 == 28)) := by
 unfold fallOk
 rw [beq_eq_false_iff_ne.2 h]
 by_cases a : (opAt l i).f0 = 29
 ·have hg : goesB (opAt l i) = false := by unfold goesB; rw [a]; rfl
  rw [hg]
  by_cases z : (opAt l i).f2 = 0
  ·have he : endsB l i = true := by unfold endsB; rw [a, z]; rfl
   rw [he]; rfl
  ·have := hsw i hi a
   obtain ⟨q1, q2⟩ := order_switch l l.length 0 (by omega) ho i (by omega) hi a (by omega)
   rw [lead_self q1 (by rw [q2]; decide), q2]
   cases endsB l i <;> cases decide (i + 1 < l.length) <;> rfl
 by_cases b : (opAt l i).f0 = 30
 ·have hg : goesB (opAt l i) = false := by unfold goesB; rw [b]; rfl
  rw [hg]
  by_cases q1 : i + 1 < l.length
  ·by_cases q2 : (opAt l (i + 1)).f0 = 30
   ·rw [lead_self q1 (by rw [q2]; decide), q2]
    cases endsB l i <;> cases decide (i + 1 < l.length) <;> rfl
   ·have he : endsB l i = true := by
     unfold endsB
     rw [b, bne_iff_ne.2 q2, Bool.or_true]; rfl
    rw [he]; rfl
  ·rw [decide_eq_false q1]
   cases endsB l i <;> rfl
 rw [ends_goes _ l i rfl a b]
 cases goesB (opAt l i) <;> cases decide (i + 1 < l.length) <;> rfl
theorem fall_label (l : List S35) (i : Nat) (h : (opAt l i).f0 = 19) : fallOk l i (opAt l i) = true := by
 unfold fallOk
 rw [h]
 rfl
theorem jump_enter (l : List S35) (at_ : List Int) (o : S35) (h : o.f0 = 24) : jumpOk l at_ o = true := by
 unfold jumpOk namedI
 rw [h]
 rfl
theorem fits_enter (o : S35) (d : Int) (x : SKind) (b : Bool) (h : o.f0 = 24) : fitsB o d x b = true := by
 unfold fitsB
 rw [h]
 rfl
theorem deep_stack (l : List S35) (at_ : List Int) (ho : orderB l = true) (hsw : ∀ i, i < l.length → (opAt l i).f0 = 29 → 0 ≤ (opAt l i).f2) (hM : ∀ i, i < l.length → (opAt l i).f0 = 24 → 0 ≤ (opAt l i).f2 ∧ (opAt l i).f2 ≤ 8) :
  ∀ (n i : Nat) (d : Int) (from_ : Bool), l.length - i = n → deepGo l at_ i d from_ = (stackGo l at_ i d && !(from_ && (decide (i < l.length) && (leadOp l i).f0 == 28)))
 | 0, i, d, from_, hn => by
  have hi : ¬ i < l.length := by omega
  rw [deepGo, if_neg hi, stackGo, if_neg hi, decide_eq_false hi]
  cases from_ <;> rfl
 | n + 1, i, d, from_, hn => by
  have hi : i < l.length := by omega
  have ih := fun (d : Int) (f : Bool) => deep_stack l at_ ho hsw hM n (i + 1) d f (by omega)
  rw [deepGo, if_pos hi, stackGo, if_pos hi, decide_eq_true hi]
  by_cases e24 : (opAt l i).f0 = 24
  ·have hm := hM i hi e24
   have hA : afterI (opAt l i) d (kindAt (opAt l i).f0) = 2 + (opAt l i).f2 := by
    unfold afterI
    rw [if_neg (by rw [e24]; decide), if_pos e24]
   have hg : goesB (opAt l i) = true := by unfold goesB; rw [e24]; rfl
   rw [if_pos e24, hA, fits_enter _ _ _ _ e24, jump_enter _ _ _ e24, decide_eq_true (by omega : 2 ≤ 2 + (opAt l i).f2), decide_eq_true (by omega : 2 + (opAt l i).f2 ≤ 4000), fall_goes l ho hsw i hi (by rw [e24]; decide), hg, lead_self hi (by rw [e24]; decide), e24, ih]
   generalize stackGo l at_ (i + 1) (2 + (opAt l i).f2) = x1
   generalize (decide (i + 1 < l.length) && (leadOp l (i + 1)).f0 == 28) = x2
   cases x1 <;> cases x2 <;> cases from_ <;> rfl
  rw [if_neg e24, ih]
  generalize hA : afterI (opAt l i) d (kindAt (opAt l i).f0) = A
  have hin : inB A 2 4000 = (decide (2 ≤ A) && decide (A ≤ 4000)) := rfl
  rw [hin]
  generalize fitsB (opAt l i) d (kindAt (opAt l i).f0) (decide (0 < i) && (opAt l (i - 1)).f0 == 19) = x1
  generalize decide (2 ≤ A) = x2
  generalize decide (A ≤ 4000) = x3
  generalize jumpOk l at_ (opAt l i) = x4
  generalize stackGo l at_ (i + 1) A = x5
  by_cases e19 : (opAt l i).f0 = 19
  ·have hnext := order_label l l.length 0 (by omega) ho i (by omega) hi e19
   rw [if_pos e19, fall_label l i e19, lead_eq hi e19, decide_eq_true hnext, e19]
   generalize ((leadOp l (i + 1)).f0 == 28) = x6
   cases x1 <;> cases x2 <;> cases x3 <;> cases x4 <;> cases x5 <;> cases x6 <;> cases from_ <;> rfl
  ·rw [if_neg e19, fall_goes l ho hsw i hi e19, lead_self hi e19]
   generalize (decide (i + 1 < l.length) && (leadOp l (i + 1)).f0 == 28) = x6
   generalize ((opAt l i).f0 == 28) = x7
   generalize goesB (opAt l i) = x8
   cases x1 <;> cases x2 <;> cases x3 <;> cases x4 <;> cases x5 <;> cases x6 <;> cases x7 <;> cases x8 <;> cases from_ <;> rfl
end Go.Proofs.Ytkmcanknbdaliaa.Lx
