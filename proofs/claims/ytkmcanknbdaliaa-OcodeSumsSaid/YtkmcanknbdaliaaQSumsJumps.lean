/- What ocode.Jumps answers, in plain words. -/
import Derived.Test.YtkmcanknbdaliaaQSumsCheck
import Derived.Test.YtkmcanknbdaliaaQSums2
import Derived.Test.YtkmcanknbdaliaaQSums1
namespace Go.Proofs.Ytkmcanknbdaliaa.Lx
open Go Go.RowKit Go.Proofs.YtkmcanknbdaliaaW.PrintWords Go.Proofs.YtkmcanknbdaliaaW.PrintLast Go.Proofs.YtkmcanknbdaliaaW.PrintMore Go.Proofs.Ytkmcanknbdaliaa.PO
theorem at_succ (k : Nat) (h : (k : Int) + 1 ≤ 9223372036854775807) : wrap64 ((k : Int) + 1) = ((k + 1 : Nat) : Int) := by rw [w64 _ (by omega)]; simp
theorem label_f (o : S35) (k : Nat) (hk : 1 ≤ k) : bluebellref06_Label.f k o.f0 o.f1 o.f2 = some (namedI o) := by
  obtain ⟨k, rfl⟩ : ∃ m, k = m + 1 := ⟨k - 1, by omega⟩
  unfold bluebellref06_Label.f namedI
  simp only [bluebellref06_Label.j0, beq_iff_eq]
  by_cases h1 : o.f0 = 20
  · simp [h1]
  by_cases h2 : o.f0 = 21
  · simp [h2]
  by_cases h3 : o.f0 = 22
  · simp [h3]
  by_cases h4 : o.f0 = 27
  · simp [h4]
  by_cases h5 : o.f0 = 29
  · simp [h5]
  by_cases h6 : o.f0 = 30
  · simp [h6]
  simp [h1, h2, h3, h4, h5, h6]
theorem named_fk (o : S35) (k : Nat) (hk : 1 ≤ k) : ocode_Named.f k o.f0 o.f1 o.f2 = some (namedI o) :=
  at_rounds (fun k => ocode_Named.mono _ _ _ k) hk (named_f o)
/-- One more jump to a label. -/
def jumpTo (xs : List Int) (n : Int) : List Int := if n > 0 then xs.set (n - 1).toNat (rd xs (n - 1) + 1) else xs
def jumpsL : List S35 → List Int → List Int
  | [], xs => xs
  | o :: l, xs => jumpsL l (jumpTo xs (namedI o))
def jumpsR (c : Cod) : List Int × Int := if checkI c = 0 then (jumpsL c.ops (List.replicate c.labels.toNat 0), 0) else ([], checkI c)
theorem jumpTo_len (xs : List Int) (n : Int) : (jumpTo xs n).length = xs.length := by unfold jumpTo; split <;> simp
theorem jumpsL_len : ∀ (l : List S35) (xs : List Int), (jumpsL l xs).length = xs.length
  | [], _ => rfl
  | o :: l, xs => by rw [jumpsL, jumpsL_len l, jumpTo_len]
theorem rd_all {xs : List Int} {j : Int} {P : Int → Prop} (h : ∀ x ∈ xs, P x) (h0 : P 0) : P (rd xs j) := by
  unfold rd
  by_cases g : j.toNat < xs.length
  · rw [List.getD_eq_getElem?_getD, List.getElem?_eq_getElem g, Option.getD_some]
    exact h _ (List.getElem_mem g)
  · rw [List.getD_eq_getElem?_getD, List.getElem?_eq_none (by omega), Option.getD_none]
    exact h0
theorem jumpTo_bd {xs : List Int} {n B : Int} (h : ∀ x ∈ xs, 0 ≤ x ∧ x ≤ B) (hB : 0 ≤ B) : ∀ x ∈ jumpTo xs n, 0 ≤ x ∧ x ≤ B + 1 := by
  intro x hx
  unfold jumpTo at hx
  by_cases g : n > 0
  · rw [if_pos g] at hx
    rcases List.mem_or_eq_of_mem_set hx with h1 | h1
    · have := h x h1; omega
    · have := rd_all (j := n - 1) h ⟨Int.le_refl 0, hB⟩
      omega
  · rw [if_neg g] at hx
    have := h x hx
    omega
theorem jumps_l0 (l : List S35) (hl : l.length ≤ 1000000) (L : Nat) (hL : L ≤ 1000000) (hn : ∀ o ∈ l, namedI o ≤ (L : Int)) : ∀ (n i : Nat) (xs : List Int) (k : Nat), l.length - i = n → i ≤ l.length → n + 1 < k → xs.length = L → (∀ x ∈ xs, 0 ≤ x ∧ x ≤ (i : Int)) →
    ocode_Jumps.l0 k xs l (l.length : Int) (i : Int) = some (jumpsL (l.drop i) xs, 0)
  | 0, i, xs, k, hd, hi, hk, hx, hb => by
    obtain ⟨k, rfl⟩ : ∃ m, k = m + 1 := ⟨k - 1, by omega⟩
    obtain rfl : i = l.length := by omega
    simp only [ocode_Jumps.l0]
    rw [if_neg (by omega), List.drop_length, jumpsL]
  | n + 1, i, xs, k, hd, hi, hk, hx, hb => by
    obtain ⟨k, rfl⟩ : ∃ m, k = m + 1 := ⟨k - 1, by omega⟩
    have hlt : i < l.length := by omega
    have hm := hn (opAt l i) (by rw [op_get _ _ hlt]; exact List.getElem_mem hlt)
    have e : jumpsL (l.drop i) xs = jumpsL (l.drop (i + 1)) (jumpTo xs (namedI (opAt l i))) := by rw [drop_opAt l i hlt, jumpsL]
    rw [e]
    simp only [ocode_Jumps.l0]
    rw [if_pos (by omega), if_pos (by omega), if_pos (by omega)]
    change ((ocode_Named.f k (opAt l i).f0 (opAt l i).f1 (opAt l i).f2).bind _) = _
    rw [named_fk _ k (by omega), Option.bind_some, at_succ i (by omega)]
    generalize namedI (opAt l i) = m at *
    have hbd := jumpTo_bd (n := m) hb (by omega)
    have hbd' : ∀ x ∈ jumpTo xs m, 0 ≤ x ∧ x ≤ ((i + 1 : Nat) : Int) := fun x h => by have := hbd x h; omega
    have hr := rd_all (j := m - 1) hb ⟨Int.le_refl 0, by omega⟩
    by_cases g : m > 0
    · rw [if_pos g, w64 (m - 1) (by omega), if_pos (by omega), if_pos (by omega), w64 (rd xs (m - 1) + 1) (by omega)]
      have ej : xs.set (m - 1).toNat (rd xs (m - 1) + 1) = jumpTo xs m := by unfold jumpTo; rw [if_pos g]
      rw [ej]
      exact jumps_l0 l hl L hL hn n (i + 1) _ k (by omega) (by omega) (by omega) (by rw [jumpTo_len, hx]) hbd'
    · rw [if_neg g]
      have ej : jumpTo xs m = xs := by unfold jumpTo; rw [if_neg g]
      rw [ej] at hbd' ⊢
      exact jumps_l0 l hl L hL hn n (i + 1) xs k (by omega) (by omega) (by omega) hx hbd'
theorem named_all {c : Cod} (h : Valid c) : ∀ o ∈ c.ops, namedI o ≤ c.labels := fun o ho => named_ok h.st.l (List.all_eq_true.1 h.st.ops o ho)
theorem jumps_f (c : Cod) (h : Fine c) (k : Nat) (hk : c.data.length + c.ops.length + 4 ≤ k) : ocode_Jumps.f k c.name c.data c.ops c.gl c.procs c.labels = some (jumpsR c) := by
  unfold ocode_Jumps.f jumpsR
  rw [check_f c h k (by omega), Option.bind_some]
  by_cases g : checkI c = 0
  · have hv := check_ok h g
    have h0 := hv.st.l
    have hlim := hv.lim
    rw [if_pos g, if_pos g, if_pos h0, if_pos (by omega)]
    have q := jumps_l0 c.ops h.o c.labels.toNat (by omega) (fun o ho => by have := named_all hv o ho; omega) c.ops.length 0 (List.replicate c.labels.toNat 0) k (by omega) (by omega) (by omega) (by simp) (fun x hx => by have := List.eq_of_mem_replicate hx; omega)
    exact q
  · rw [if_neg g, if_neg g]
/-! ### how many labels are named -/
def namedCount (l : List S35) : Nat := l.countP fun o => decide (namedI o > 0)
theorem sum_set : ∀ (xs : List Int) (j : Nat) (_ : j < xs.length), (xs.set j (xs.getD j 0 + 1)).sum = xs.sum + 1
  | x :: xs, 0, _ => by simp; omega
  | x :: xs, j + 1, h => by
    have ih := sum_set xs j (by simpa using h)
    simp only [List.set_cons_succ, List.sum_cons, List.getD_cons_succ]
    rw [ih]
    omega
theorem jumpTo_sum (xs : List Int) (n : Int) (h : n ≤ xs.length) : (jumpTo xs n).sum = xs.sum + (if n > 0 then 1 else 0) := by
  unfold jumpTo
  by_cases g : n > 0
  · rw [if_pos g, if_pos g]
    exact sum_set xs (n - 1).toNat (by omega)
  · rw [if_neg g, if_neg g]; omega
theorem jumpsL_sum : ∀ (l : List S35) (xs : List Int), (∀ o ∈ l, namedI o ≤ xs.length) → (jumpsL l xs).sum = xs.sum + namedCount l
  | [], xs, _ => by simp [jumpsL, namedCount]
  | o :: l, xs, h => by
    rw [jumpsL, jumpsL_sum l _ (fun o' h' => by rw [jumpTo_len]; exact h o' (List.mem_cons_of_mem _ h')), jumpTo_sum xs _ (h o (List.mem_cons_self ..))]
    unfold namedCount
    rw [List.countP_cons]
    by_cases g : namedI o > 0
    · rw [if_pos g, decide_eq_true g]; simp; omega
    · rw [if_neg g, decide_eq_false g]; simp
end Go.Proofs.Ytkmcanknbdaliaa.Lx
