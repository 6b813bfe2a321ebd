/- The law OcodeSums, in plain words: all labels that are named are counted, and no others. -/
import Derived.Test.YtkmcanknbdaliaaQSumsJumps
import Derived.Test.YtkmcanknbdaliaaQSumsAwake
import Derived.Test.YtkmcanknbdaliaaQSums3
namespace Go.Proofs.Ytkmcanknbdaliaa.Lx
open Go Go.RowKit Go.Proofs.YtkmcanknbdaliaaW.PrintWords Go.Proofs.YtkmcanknbdaliaaW.PrintLast Go.Proofs.YtkmcanknbdaliaaW.PrintMore Go.Proofs.Ytkmcanknbdaliaa.PO
theorem sums_l1 (c : Cod) (ho : c.ops.length ≤ 1000000) (xs : List Int) (s : Int) (hs : s = namedCount c.ops) (hx : (xs.length : Int) = c.labels) : ∀ (n i : Nat) (t : Int) (k : Nat), c.ops.length - i = n → i ≤ c.ops.length → n + 7 ≤ k → 0 ≤ t → t ≤ (i : Int) → t + namedCount (c.ops.drop i) = namedCount c.ops →
    bluebelllaw06_OcodeSums.l1 k xs s t (i : Int) c.name c.data c.ops c.gl c.procs c.labels = some true
  | 0, i, t, k, hd, hi, hk, h0, h1, ht => by
    obtain ⟨k, rfl⟩ : ∃ m, k = m + 1 := ⟨k - 1, by omega⟩
    obtain rfl : i = c.ops.length := by omega
    rw [List.drop_length] at ht
    have e : s = t := by rw [hs, ← ht]; simp [namedCount]
    simp only [bluebelllaw06_OcodeSums.l1]
    rw [if_neg (by omega), if_pos hx, if_pos e, awake_f k (by omega)]
    rfl
  | n + 1, i, t, k, hd, hi, hk, h0, h1, ht => by
    obtain ⟨k, rfl⟩ : ∃ m, k = m + 1 := ⟨k - 1, by omega⟩
    have hlt : i < c.ops.length := by omega
    have e : namedCount (c.ops.drop i) = namedCount (c.ops.drop (i + 1)) + (if namedI (opAt c.ops i) > 0 then 1 else 0) := by
      rw [drop_opAt c.ops i hlt]
      unfold namedCount
      rw [List.countP_cons]
      simp
    rw [e] at ht
    simp only [bluebelllaw06_OcodeSums.l1]
    rw [if_pos (by omega), if_pos (by omega)]
    change ((bluebellref06_Label.f k (opAt c.ops i).f0 (opAt c.ops i).f1 (opAt c.ops i).f2).bind _) = _
    rw [label_f _ k (by omega), Option.bind_some, at_succ i (by omega)]
    by_cases g : namedI (opAt c.ops i) > 0
    · rw [if_pos g] at ht ⊢
      rw [w64 (t + 1) (by omega)]
      exact sums_l1 c ho xs s hs hx n (i + 1) (t + 1) k (by omega) (by omega) (by omega) (by omega) (by omega) (by omega)
    · rw [if_neg g] at ht ⊢
      exact sums_l1 c ho xs s hs hx n (i + 1) t k (by omega) (by omega) (by omega) (by omega) (by omega) (by omega)
theorem drop_rd (xs : List Int) (i : Nat) (h : i < xs.length) : xs.drop i = rd xs i :: xs.drop (i + 1) := by
  rw [List.drop_eq_getElem_cons h]
  congr 1
  unfold rd
  rw [Int.toNat_natCast, List.getD_eq_getElem?_getD, List.getElem?_eq_getElem h, Option.getD_some]
theorem sum_nonneg : ∀ {xs : List Int}, (∀ x ∈ xs, 0 ≤ x) → 0 ≤ xs.sum
  | [], _ => by simp
  | x :: xs, h => by
    have h1 := h x (List.mem_cons_self ..)
    have h2 := sum_nonneg fun y hy => h y (List.mem_cons_of_mem x hy)
    simp only [List.sum_cons]
    omega
theorem sums_l0 (c : Cod) (ho : c.ops.length ≤ 1000000) (xs : List Int) (hs : xs.sum = namedCount c.ops) (hx : (xs.length : Int) = c.labels) (hp : ∀ x ∈ xs, 0 ≤ x) (hl : xs.length ≤ 1000000) : ∀ (n i : Nat) (s : Int) (k : Nat), xs.length - i = n → i ≤ xs.length → n + c.ops.length + 8 ≤ k → 0 ≤ s → s + (xs.drop i).sum = xs.sum →
    bluebelllaw06_OcodeSums.l0 k xs s 0 (i : Int) c.name c.data c.ops c.gl c.procs c.labels = some true
  | 0, i, s, k, hd, hi, hk, h0, h1 => by
    obtain ⟨k, rfl⟩ : ∃ m, k = m + 1 := ⟨k - 1, by omega⟩
    obtain rfl : i = xs.length := by omega
    rw [List.drop_length] at h1
    simp only [bluebelllaw06_OcodeSums.l0]
    rw [if_neg (by omega)]
    exact sums_l1 c ho xs s (by rw [← hs, ← h1]; simp) hx c.ops.length 0 0 k (by omega) (by omega) (by omega) (by omega) (by omega) (by simp)
  | n + 1, i, s, k, hd, hi, hk, h0, h1 => by
    obtain ⟨k, rfl⟩ : ∃ m, k = m + 1 := ⟨k - 1, by omega⟩
    have hlt : i < xs.length := by omega
    rw [drop_rd xs i hlt, List.sum_cons] at h1
    have hr := rd_all (j := (i : Int)) hp (Int.le_refl 0)
    have hq := sum_nonneg (xs := xs.drop (i + 1)) fun x hx => hp x (List.mem_of_mem_drop hx)
    have hc : namedCount c.ops ≤ c.ops.length := List.countP_le_length
    simp only [bluebelllaw06_OcodeSums.l0]
    rw [if_pos (by omega), if_pos (by omega), at_succ i (by omega), w64 (s + rd xs i) (by omega)]
    exact sums_l0 c ho xs hs hx hp hl n (i + 1) _ k (by omega) (by omega) (by omega) (by omega) (by omega)
theorem jumpsL_nonneg : ∀ (l : List S35) (xs : List Int), (∀ x ∈ xs, 0 ≤ x) → ∀ x ∈ jumpsL l xs, 0 ≤ x
  | [], _, h => h
  | o :: l, xs, h => by
    rw [jumpsL]
    refine jumpsL_nonneg l _ fun x hx => ?_
    unfold jumpTo at hx
    by_cases g : namedI o > 0
    · rw [if_pos g] at hx
      rcases List.mem_or_eq_of_mem_set hx with h1 | h1
      · exact h x h1
      · have := rd_all (j := namedI o - 1) h (Int.le_refl 0)
        omega
    · rw [if_neg g] at hx
      exact h x hx
theorem sum_zero : ∀ n : Nat, (List.replicate n (0 : Int)).sum = 0
  | 0 => rfl
  | n + 1 => by rw [List.replicate_succ, List.sum_cons, sum_zero n]; rfl
theorem sums_pure (c : Cod) (hw : Wide c) : ∃ k, bluebelllaw06_OcodeSums.f k c.name c.data c.ops c.gl c.procs c.labels = some true := by
  obtain ⟨b, hb, hfine⟩ := heavy_f c hw
  refine ⟨c.data.length + c.ops.length + c.labels.toNat + 20, ?_⟩
  unfold bluebelllaw06_OcodeSums.f
  rw [hb _ (by omega), Option.bind_some]
  cases b with
  | true => rw [if_pos rfl, awake_f _ (by omega)]; rfl
  | false =>
    have hf := hfine rfl
    rw [if_neg (by decide), jumps_f c hf _ (by omega), Option.bind_some]
    unfold jumpsR
    by_cases g : checkI c = 0
    · have hv := check_ok hf g
      have h0 := hv.st.l
      have hlim := hv.lim
      rw [if_pos g, if_pos rfl]
      have hz : ∀ x ∈ List.replicate c.labels.toNat (0 : Int), 0 ≤ x := fun x hx => by rw [List.eq_of_mem_replicate hx]; exact Int.le_refl 0
      have hlen : (jumpsL c.ops (List.replicate c.labels.toNat 0)).length = c.labels.toNat := by rw [jumpsL_len, List.length_replicate]
      exact sums_l0 c hf.o _ (by rw [jumpsL_sum _ _ (fun o ho => by have := named_all hv o ho; rw [List.length_replicate]; omega), sum_zero]; omega) (by rw [hlen]; omega) (jumpsL_nonneg _ _ hz) (by rw [hlen]; omega) _ 0 0 _ rfl (by omega) (by rw [hlen]; omega) (Int.le_refl 0) (by rw [List.drop_zero]; omega)
    · rw [if_neg g, if_neg g, awake_f _ (by omega)]; rfl
end Go.Proofs.Ytkmcanknbdaliaa.Lx
