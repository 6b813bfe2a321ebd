/- The reference quotes what the program quotes. -/
import Derived.Test.YtkmcanknbdaliaaQChecksCheck
import Derived.Test.YtkmcanknbdaliaaQChecks4

namespace Go.Proofs.Ytkmcanknbdaliaa.Lx
open Go Go.RowKit Go.Proofs.YtkmcanknbdaliaaW.PrintWords Go.Proofs.YtkmcanknbdaliaaW.PrintLast Go.Proofs.YtkmcanknbdaliaaW.PrintMore Go.Proofs.Ytkmcanknbdaliaa.PO
set_option linter.unusedSimpArgs false
set_option linter.unusedVariables false
def okByte (x : Int) : Bool := x == 10 || x == 9 || x == 42 || x == 34 || (decide (32 ≤ x) && decide (x ≤ 126))
theorem okByte_q (c : UInt8) : (qByte c).isSome = okByte c.toNat := by
 have h : (List.range 256).all (fun n => (qByte (UInt8.ofNat n)).isSome == okByte (n : Nat)) = true := by kernel_rfl
 have h1 := List.all_eq_true.1 h c.toNat (List.mem_range.2 c.toNat_lt)
 rw [UInt8.ofNat_toNat] at h1
 exact beq_iff_eq.1 h1
def errQ (l : List UInt8) (n : Nat) : Int := if (quoteL l).isSome = true then (if n ≤ 100 then 0 else 2) else 3
theorem quote_err (s : ByteArray) : (quoteR s).2 = errQ s.data.toList s.size := by
 unfold quoteR errQ
 cases h : quoteL s.data.toList with
 | none => rfl
 | some b => simp only [Option.isSome_some, if_true]; split <;> rfl
theorem quoteL_cons (c : UInt8) (l : List UInt8) : (quoteL (c :: l)).isSome = ((qByte c).isSome && (quoteL l).isSome) := by
 rw [quoteL]
 cases qByte c <;> cases quoteL l <;> rfl
theorem dropB (s : ByteArray) (i : Nat) (h : i < s.size) : ∃ c : UInt8, s.data.toList.drop i = c :: s.data.toList.drop (i + 1) ∧ bt s (i : Int) = (c.toNat : Int) := by
 have hl : i < s.data.toList.length := by rw [data_len]; exact h
 refine ⟨s.data.toList[i], List.drop_eq_getElem_cons hl, ?_⟩
 unfold bt
 rw [dif_pos (by simpa using h)]
 rfl
theorem extract_size (s : ByteArray) (i : Nat) (h : i < s.size) : (s.extract (i : Int).toNat ((i + 1 : Nat) : Int).toNat).size = 1 := by
 rw [ByteArray.size_extract]
 omega
theorem quote_l0 (s : ByteArray) (hs : s.size ≤ 1000000) : ∀ (n i : Nat) (x : ByteArray) (k : Nat), s.size - i = n → i ≤ s.size → 2 * n + 2 ≤ k → x.size ≤ 2 * i + 1 → ∃ r, bluebellref02_Quote.l0 k s x (i : Int) = some (r, errQ (s.data.toList.drop i) s.size)
 | 0, i, x, k, hn, hi, hk, hx => by
  obtain ⟨k, rfl⟩ : ∃ m, k = m + 1 := ⟨k - 1, by omega⟩
  rw [List.drop_eq_nil_of_le (by rw [data_len]; omega)]
  simp only [bluebellref02_Quote.l0]
  rw [if_neg (by omega)]
  by_cases g : (s.size : Int) > 100
  ·exact ⟨_, by rw [if_pos g]; unfold errQ; rw [if_pos (by rfl), if_neg (by omega)]⟩
  ·exact ⟨_, by rw [if_neg g, if_pos (by omega)]; unfold errQ; rw [if_pos (by rfl), if_pos (by omega)]⟩
 | n + 1, i, x, k, hn, hi, hk, hx => by
  obtain ⟨k, rfl⟩ : ∃ m, k = m + 1 := ⟨k - 1, by omega⟩
  have hlt : i < s.size := by omega
  obtain ⟨c, hc, hb⟩ := dropB s i hlt
  have he := extract_size s i hlt
  have ho := okByte_q c
  have hq := quoteL_cons c (s.data.toList.drop (i + 1))
  rw [hc]
  have z2 : (⟨#[42, 110]⟩ : ByteArray).size = 2 := rfl
  have z3 : (⟨#[42, 116]⟩ : ByteArray).size = 2 := rfl
  have z1 : (⟨#[42]⟩ : ByteArray).size = 1 := rfl
  have ih : ∀ (y : ByteArray), y.size ≤ 2 * (i + 1) + 1 → ∀ (m : Nat), 2 * n + 2 ≤ m → ∃ r, bluebellref02_Quote.l0 m s y ((i + 1 : Nat) : Int) = some (r, errQ (s.data.toList.drop (i + 1)) s.size) := fun y hy m hm => quote_l0 s hs n (i + 1) y m (by omega) (by omega) hm hy
  have hgood : okByte c.toNat = true → errQ (c :: s.data.toList.drop (i + 1)) s.size = errQ (s.data.toList.drop (i + 1)) s.size := fun g => by
   unfold errQ
   rw [hq, ho, g, Bool.true_and]
  have hbad : okByte c.toNat = false → errQ (c :: s.data.toList.drop (i + 1)) s.size = 3 := fun g => by
   unfold errQ
   rw [hq, ho, g, Bool.false_and]
   rfl
  simp only [bluebellref02_Quote.l0]
  rw [if_pos (by omega), if_pos (by omega), hb, at_succ i (by omega)]
  by_cases c1 : (c.toNat : Int) = 10
  ·rw [if_pos c1, if_pos (by omega), hgood (by rw [c1]; rfl)]
   exact ih _ (by rw [ByteArray.size_append, z2]; omega) _ (by omega)
  rw [if_neg c1]
  by_cases c2 : (c.toNat : Int) = 9
  ·rw [if_pos c2, if_pos (by omega), hgood (by rw [c2]; rfl)]
   exact ih _ (by rw [ByteArray.size_append, z3]; omega) _ (by omega)
  rw [if_neg c2]
  have hj : ∀ b : Bool, b = ((c.toNat : Int) == 42 || (c.toNat : Int) == 34) → ∃ r, bluebellref02_Quote.j1 k s x (i : Int) (c.toNat : Int) b = some (r, errQ (c :: s.data.toList.drop (i + 1)) s.size) := by
   intro b hbb
   obtain ⟨k, rfl⟩ : ∃ m, k = m + 1 := ⟨k - 1, by omega⟩
   simp only [bluebellref02_Quote.j1]
   rw [at_succ i (by omega)]
   cases b with
   | true =>
    have g : okByte c.toNat = true := by
     unfold okByte
     have : ((c.toNat : Int) == 42) = true ∨ ((c.toNat : Int) == 34) = true := Bool.or_eq_true_iff.1 hbb.symm
     rcases this with h | h <;> rw [h] <;> simp
    rw [if_pos rfl, if_pos (by omega), if_pos (by omega), if_pos (by omega), he, if_pos (by omega), if_pos (by rw [ByteArray.size_append, z1, he]; omega), hgood g]
    exact ih _ (by rw [ByteArray.size_append, ByteArray.size_append, z1, he]; omega) _ (by omega)
   | false =>
    have h42 := (Bool.or_eq_false_iff.1 hbb.symm).1
    have h34 := (Bool.or_eq_false_iff.1 hbb.symm).2
    have hk : okByte c.toNat = (decide (32 ≤ (c.toNat : Int)) && decide ((c.toNat : Int) ≤ 126)) := by
     unfold okByte
     rw [h42, h34, beq_eq_false_iff_ne.2 c1, beq_eq_false_iff_ne.2 c2]
     rfl
    rw [if_neg (by decide)]
    by_cases g1 : (c.toNat : Int) < 32
    ·rw [if_pos g1, hbad (by rw [hk, decide_eq_false (by omega : ¬ 32 ≤ (c.toNat : Int))]; rfl)]
     exact ⟨_, rfl⟩
    rw [if_neg g1]
    by_cases g2 : (c.toNat : Int) > 126
    ·rw [if_pos g2, hbad (by rw [hk, decide_eq_false (by omega : ¬ (c.toNat : Int) ≤ 126), Bool.and_false])]
     exact ⟨_, rfl⟩
    rw [if_neg g2, if_pos (by omega), if_pos (by omega), if_pos (by omega), he, if_pos (by omega), hgood (by rw [hk, decide_eq_true (by omega : 32 ≤ (c.toNat : Int)), decide_eq_true (by omega : (c.toNat : Int) ≤ 126)]; rfl)]
    exact ih _ (by rw [ByteArray.size_append, he]; omega) _ (by omega)
  by_cases c3 : (c.toNat : Int) = 42
  ·rw [if_pos c3]
   exact hj true (by rw [c3]; rfl)
  ·rw [if_neg c3]
   exact hj _ (by rw [beq_eq_false_iff_ne.2 c3, Bool.false_or])
theorem quote_ref (s : ByteArray) (hs : s.size ≤ 1000000) (k : Nat) (hk : 2 * s.size + 2 ≤ k) : ∃ r, bluebellref02_Quote.f k s = some (r, (quoteR s).2) := by
 rw [quote_err]
 have z : (⟨#[34]⟩ : ByteArray).size = 1 := rfl
 exact quote_l0 s hs s.size 0 _ k (by omega) (by omega) hk (by omega)
end Go.Proofs.Ytkmcanknbdaliaa.Lx
