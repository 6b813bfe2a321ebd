/- The reference's order in the words of the program's. -/
import Derived.Test.YtkmcanknbdaliaaQChecksRefOrder
namespace Go.Proofs.Ytkmcanknbdaliaa.Lx
open Go Go.RowKit Go.Proofs.YtkmcanknbdaliaaW.PrintWords Go.Proofs.YtkmcanknbdaliaaW.PrintLast Go.Proofs.YtkmcanknbdaliaaW.PrintMore Go.Proofs.Ytkmcanknbdaliaa.PO
/-- The procedures and the greatest label, if procedures are numbered in order. -/
def scanL : List S35 → Int → Int → Option (Int × Int)
 | [], p, last => some (p, last)
 | o :: l, p, last => if o.f0 = 24 then (if o.f1 = p + 1 then scanL l (p + 1) last else none) else if o.f0 = 19 then scanL l p (mx last o.f1) else scanL l p last
def scanOk (P L : Int) : Option (Int × Int) → Bool
 | none => false
 | some (a, b) => a == P && b == L
theorem scan_drop (l : List S35) (i : Nat) (p la : Int) (hi : i < l.length) : scanL (l.drop i) p la =
  if (opAt l i).f0 = 24 then (if (opAt l i).f1 = p + 1 then scanL (l.drop (i + 1)) (p + 1) la else none) else if (opAt l i).f0 = 19 then scanL (l.drop (i + 1)) p (mx la (opAt l i).f1) else scanL (l.drop (i + 1)) p la := by
 rw [List.drop_eq_getElem_cons hi, op_get l i hi]
 rfl
theorem cases_succ (l : List S35) (i m : Nat) : casesB l i (m + 1) = ((decide (i < l.length) && (opAt l i).f0 == 30) && casesB l (i + 1) m) := by
 unfold casesB
 rw [List.range_succ_eq_map]
 simp only [List.all_cons, List.all_map, Nat.add_zero]
 congr 1
 congr 1
 funext k
 simp only [Function.comp]
 rw [show i + k.succ = i + 1 + k by omega]
theorem rPost_case (l : List S35) (i : Nat) (h : (opAt l i).f0 = 30 ∨ (opAt l i).f0 = 29) (hi : 0 < i) : rPost l i = true := by
 have hg : goesB (opAt l i) = false := by
  unfold goesB
  rcases h with h | h <;> rw [h] <;> rfl
 unfold rPost
 rw [hg, decide_eq_false (by omega : ¬ i = 0)]
 rfl
theorem rOrd_cases (l : List S35) (P L : Int) : ∀ (m n i : Nat) (p la : Int), l.length - i = n → 0 < i → rOrd l P L n i p la (m : Int) = (casesB l i m && rOrd l P L (n - m) (i + m) p la 0)
 | 0, n, i, p, la, hn, hi => by
  rw [Nat.sub_zero, Nat.add_zero]
  exact (Bool.true_and _).symm
 | m + 1, 0, i, p, la, hn, hi => by
  rw [rOrd, cases_succ, decide_eq_false (by omega : ¬ i < l.length), beq_eq_false_iff_ne.2 (by omega : ¬ ((m + 1 : Nat) : Int) = 0)]
  rfl
 | m + 1, n + 1, i, p, la, hn, hi => by
  rw [rOrd, cases_succ, decide_eq_true (by omega : i < l.length), decide_eq_true (by omega : ((m + 1 : Nat) : Int) > 0), if_pos (by omega : ((m + 1 : Nat) : Int) > 0)]
  rw [show ((m + 1 : Nat) : Int) - 1 = (m : Int) by omega]
  by_cases h : (opAt l i).f0 = 30
  ·rw [rPost_case l i (.inl h) hi, rOrd_cases l P L m n (i + 1) p la (by omega) (by omega), h, show n + 1 - (m + 1) = n - m by omega, show i + (m + 1) = i + 1 + m by omega]
   rfl
  ·rw [beq_eq_false_iff_ne.2 h]
   rfl
theorem first_go (l : List S35) (i : Nat) (h : orderGo l i = true) : l.length = 0 ∨ (opAt l 0).f0 = 24 := by
 induction i using orderGo.induct l with
 | case1 i h1 h2 ih => rw [orderGo, if_pos h1, if_pos h2] at h; exact ih (Bool.and_eq_true_iff.1 h).2
 | case2 i h1 h2 h3 => rw [orderGo, if_pos h1, if_neg h2, if_pos h3] at h; exact absurd h (by decide)
 | case3 i h1 h2 h3 h4 ih => rw [orderGo, if_pos h1, if_neg h2, if_neg h3, if_pos h4] at h; exact ih (Bool.and_eq_true_iff.1 h).2
 | case4 i h1 h2 h3 h4 ih => rw [orderGo, if_pos h1, if_neg h2, if_neg h3, if_neg h4] at h; exact ih (Bool.and_eq_true_iff.1 h).2
 | case5 i h1 =>
  rw [orderGo, if_neg h1] at h
  rcases Bool.or_eq_true_iff.1 h with h | h
  ·exact .inl (of_decide_eq_true h)
  ·exact .inr (beq_iff_eq.1 h)
/-- The look behind an instruction that is no switch and no case. -/
theorem rPost_last (l : List S35) (i : Nat) (hi : i < l.length) (h1 : (opAt l i).f0 ≠ 29) (h2 : (opAt l i).f0 ≠ 30) (h3 : i = 0 → (opAt l i).f0 = 24) : rPost l i = lastOk l i := by
 have e1 : (decide (i = 0) && !((opAt l i).f0 == 24)) = false := by
  by_cases e : i = 0
  ·rw [h3 e, decide_eq_true e]; rfl
  ·rw [decide_eq_false e]; rfl
 have e2 : endsB l i = !goesB (opAt l i) := by
  unfold endsB goesB
  rw [if_neg h1, if_neg h2, if_neg h1, bne_iff_ne.2 h2]
  by_cases a : (opAt l i).f0 = 20
  ·rw [if_pos (.inl a), if_pos a]; rfl
  by_cases b : (opAt l i).f0 = 25
  ·rw [if_pos (.inr (.inl b)), if_neg a, if_pos b]; rfl
  by_cases c : (opAt l i).f0 = 26
  ·rw [if_pos (.inr (.inr (.inl c))), if_neg a, if_neg b, if_pos c]; rfl
  by_cases d : (opAt l i).f0 = 27
  ·rw [if_pos (.inr (.inr (.inr d))), if_neg a, if_neg b, if_neg c, if_pos d]; rfl
  rw [if_neg (by simp [a, b, c, d]), if_neg a, if_neg b, if_neg c, if_neg d]; rfl
 unfold rPost lastOk
 rw [e1, e2]
 by_cases a : i + 1 = l.length
 ·rw [if_pos (.inl a), decide_eq_true (by omega : l.length ≤ i + 1)]
  cases goesB (opAt l i) <;> rfl
 by_cases b : (opAt l (i + 1)).f0 = 24
 ·rw [if_pos (.inr b), b]
  cases goesB (opAt l i) <;> cases decide (l.length ≤ i + 1) <;> rfl
 rw [if_neg (by simp [a, b]), decide_eq_false (by omega : ¬ l.length ≤ i + 1), beq_eq_false_iff_ne.2 b]
 cases goesB (opAt l i) <;> rfl
theorem scan_cases (l : List S35) : ∀ (m i : Nat) (p la : Int), casesB l i m = true → scanL (l.drop i) p la = scanL (l.drop (i + m)) p la
 | 0, _, _, _, _ => rfl
 | m + 1, i, p, la, h => by
  rw [cases_succ] at h
  obtain ⟨h1, h2⟩ := Bool.and_eq_true_iff.1 h
  obtain ⟨h3, h4⟩ := Bool.and_eq_true_iff.1 h1
  have h4 := beq_iff_eq.1 h4
  rw [scan_drop l i p la (of_decide_eq_true h3), if_neg (by rw [h4]; decide), if_neg (by rw [h4]; decide), scan_cases l m (i + 1) p la h2, show i + 1 + m = i + (m + 1) by omega]
theorem cases_last {l : List S35} {i m : Nat} (h : casesB l i m = true) (j : Nat) (hj : j < m) : i + j < l.length ∧ (opAt l (i + j)).f0 = 30 := by
 have := Bool.and_eq_true_iff.1 (List.all_eq_true.1 h j (List.mem_range.2 hj))
 exact ⟨of_decide_eq_true this.1, beq_iff_eq.1 this.2⟩
theorem rOrd_eq (l : List S35) (P L : Int) (hsw : ∀ i, i < l.length → (opAt l i).f0 = 29 → 0 ≤ (opAt l i).f2) : ∀ (n i : Nat) (p la : Int), l.length - i = n → (i = 0 ∨ (opAt l 0).f0 = 24) →
  rOrd l P L n i p la 0 = (orderGo l i && scanOk P L (scanL (l.drop i) p la)) := by
 intro n
 induction n using Nat.strongRecOn with
 | ind n ih =>
  intro i p la hn h0
  match n, hn, ih with
  | 0, hn, ih =>
   have hi : ¬ i < l.length := by omega
   rw [rOrd, orderGo, if_neg hi, List.drop_eq_nil_of_le (by omega)]
   have : (decide (l.length = 0) || (opAt l 0).f0 == 24) = true := by
    rcases h0 with h0 | h0
    ·rw [decide_eq_true (by omega)]; rfl
    ·rw [h0, Bool.or_eq_true_iff]; exact .inr rfl
   rw [this]
   rfl
  | n + 1, hn, ih =>
   have hi : i < l.length := by omega
   rw [rOrd, decide_eq_false (by decide : ¬ (0 : Int) > 0), if_neg (by decide : ¬ (0 : Int) > 0)]
   by_cases h30 : (opAt l i).f0 = 30
   ·rw [orderGo, if_pos hi, if_neg (show ¬ (opAt l i).f0 = 29 by rw [h30]; decide), if_neg (show ¬ (opAt l i).f0 = 29 by rw [h30]; decide), if_pos h30, if_pos (show (false != ((opAt l i).f0 == 30)) = true by rw [h30]; rfl)]
    rfl
   rw [beq_eq_false_iff_ne.2 h30, if_neg (by decide)]
   by_cases hz : i = 0 ∧ (opAt l i).f0 ≠ 24
   ·have hp : rPost l i = false := by
     unfold rPost
     rw [decide_eq_true hz.1, beq_eq_false_iff_ne.2 hz.2]
     exact Bool.and_false _
    have hg : orderGo l i = false := by
     cases hb : orderGo l i with
     | false => rfl
     | true =>
      rcases first_go l i hb with h | h
      ·omega
      ·exact absurd (hz.1 ▸ h) hz.2
    rw [hp, hg, if_neg hz.2]
    by_cases e3 : (opAt l i).f0 = 29
    ·rw [if_pos e3]; rfl
    rw [if_neg e3]
    by_cases e5 : (opAt l i).f0 = 19
    ·rw [if_pos e5]; exact Bool.and_false _
    rw [if_neg e5]; rfl
   have h3 : i = 0 → (opAt l i).f0 = 24 := fun e => Classical.byContradiction fun h => hz ⟨e, h⟩
   have h1 : (opAt l 0).f0 = 24 := by
    rcases h0 with h0 | h0
    ·exact h0 ▸ h3 h0
    ·exact h0
   have ihn := fun (p la : Int) => ih n (by omega) (i + 1) p la (by omega) (.inr h1)
   rw [scan_drop l i p la hi, orderGo, if_pos hi, if_neg h30]
   by_cases e1 : (opAt l i).f0 = 24
   ·have n29 : ¬ (opAt l i).f0 = 29 := by rw [e1]; decide
    have n19 : ¬ (opAt l i).f0 = 19 := by rw [e1]; decide
    rw [if_pos e1, if_pos e1, if_neg n29, if_neg n19, rPost_last l i hi (by rw [e1]; decide) h30 h3]
    by_cases e2 : (opAt l i).f1 = p + 1
    ·rw [if_pos e2, if_pos e2, ihn, Bool.and_assoc]
    ·rw [if_neg e2, if_neg e2]; exact (Bool.and_false _).symm
   rw [if_neg e1, if_neg e1]
   by_cases e5 : (opAt l i).f0 = 19
   ·have n29 : ¬ (opAt l i).f0 = 29 := by rw [e5]; decide
    rw [if_neg n29, if_neg n29, if_pos e5, if_pos e5, if_pos e5, rPost_last l i hi (by rw [e5]; decide) h30 h3, ihn, Bool.and_assoc, Bool.and_assoc]
   rw [if_neg e5, if_neg e5, if_neg e5]
   by_cases e3 : (opAt l i).f0 = 29
   ·rw [if_pos e3, if_pos e3]
    have hi0 : 0 < i := by
     rcases Nat.eq_zero_or_pos i with h | h
     ·rw [h3 h] at e3; exact absurd e3 (by decide)
     ·exact h
    obtain ⟨M, hM⟩ : ∃ M : Nat, (opAt l i).f2 = (M : Int) := ⟨(opAt l i).f2.toNat, by have := hsw i hi e3; omega⟩
    rw [rPost_case l i (.inr e3) hi0, hM, Int.toNat_natCast, rOrd_cases l P L M n (i + 1) p la (by omega) (by omega), Bool.true_and]
    by_cases hc : casesB l (i + 1) M = true
    ·rw [hc, scan_cases l M (i + 1) p la hc, show i + 1 + M = i + M + 1 by omega, Bool.true_and, Bool.true_and]
     by_cases hx : i + M + 1 < l.length ∧ (opAt l (i + M + 1)).f0 = 30
     ·rw [decide_eq_true hx.1, hx.2]
      obtain ⟨q, hq⟩ : ∃ q, n - M = q + 1 := ⟨n - M - 1, by omega⟩
      rw [hq, rOrd, hx.2]
      rfl
     ·have hlast : lastOk l (i + M) = true := by
       unfold lastOk
       split
       ·unfold endsB
        by_cases hM0 : M = 0
        ·subst hM0
         rw [Nat.add_zero, e3, hM]
         rfl
        ·have hk := cases_last hc (M - 1) (by omega)
         rw [show i + 1 + (M - 1) = i + M by omega] at hk
         rw [hk.2]
         by_cases hy : i + M + 1 = l.length
         ·rw [decide_eq_true hy]; rfl
         ·have : (opAt l (i + M + 1)).f0 ≠ 30 := fun e => hx ⟨by omega, e⟩
          rw [bne_iff_ne.2 this, Bool.or_true]; rfl
       ·rfl
      have hx' : (decide (i + M + 1 < l.length) && (opAt l (i + M + 1)).f0 == 30) = false := by
       rw [Bool.and_eq_false_iff]
       by_cases hy : i + M + 1 < l.length
       ·exact .inr (beq_eq_false_iff_ne.2 fun e => hx ⟨hy, e⟩)
       ·exact .inl (decide_eq_false hy)
      rw [hx', hlast, ih (n - M) (by omega) (i + M + 1) p la (by omega) (.inr h1)]
      rfl
    ·rw [Bool.not_eq_true _ |>.mp hc]
     rfl
   ·rw [if_neg e3, if_neg e3, rPost_last l i hi e3 h30 h3, ihn, Bool.and_assoc]
end Go.Proofs.Ytkmcanknbdaliaa.Lx
