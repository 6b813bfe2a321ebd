/- What the functions answer, in plain words: the plain laws. -/
import Derived.Test.YtkmcanknbdaliaaPLaysD2
set_option linter.unusedVariables false
set_option linter.unusedSimpArgs false
namespace Go.Pv
open Go.Proofs
set_option maxRecDepth 20000
set_option linter.unusedSimpArgs false
theorem byt_part {al : List D} (h : Byt al) (a b : Nat) : Byt ((al.take b).drop a) := by
  intro i
  rw [rd_drop]
  by_cases e : a + i < b
  · rw [rd_take _ _ _ e]; exact h _
  · rw [rd_out _ _ (by rw [List.length_take]; omega)]; simp only [D.int]; omega
theorem tw_part {b : Int} (big : Bool) (al : List D) (q : Nat) : ∀ m, m ≤ byN b → tw b big ((al.take (q * byN b + byN b)).drop (q * byN b)) 0 m = tw b big al q m
  | 0, _ => rfl
  | m + 1, h => by
    rw [tw, tw, tw_part big al q m (by omega), rd_drop, show q * byN b + (0 * byN b + m) = q * byN b + m by omega, rd_take _ _ _ (by omega)]
theorem rpack3_l (f : D) (hb : okBits f.f0) (al : List D) (hB : Byt al) (L : Nat) (hL : L ≤ 1000) (hl : al.length = L * byN f.f0) (κ : List D → Option (List D × Int)) : ∀ (m q k : Nat), L - q = m → q ≤ L → m < k →
    Gr01_Pack.l2042 k f al (wordsL f al q) ((q * byN f.f0 : Nat) : Int) κ = κ (wordsL f al L)
  | 0, q, k, hm, hq, hk => by
    obtain ⟨k, rfl⟩ : ∃ m, k = m + 1 := ⟨k - 1, by omega⟩
    obtain rfl : q = L := by omega
    simp only [Gr01_Pack.l2042]
    rw [hl, decide_eq_false (by omega), cond_false]
  | m + 1, q, k, hm, hq, hk => by
    obtain ⟨k, rfl⟩ : ∃ m, k = m + 1 := ⟨k - 1, by omega⟩
    have h234 := byN_234 hb
    have ih := rpack3_l f hb al hB L hL hl κ m (q + 1) k (by omega) (by omega) (by omega)
    have hmul : (q + 1) * byN f.f0 ≤ L * byN f.f0 := Nat.mul_le_mul_right _ (by omega)
    have hsm : (q + 1) * byN f.f0 = q * byN f.f0 + byN f.f0 := Nat.succ_mul _ _
    have hbd : L * byN f.f0 ≤ 4000 := by rcases h234 with e | e | e <;> rw [e] <;> omega
    generalize hat : q * byN f.f0 = at_ at *
    have hw : IntKind.i64.wrap ((at_ : Int) + (byN f.f0 : Int)) = ((at_ + byN f.f0 : Nat) : Int) := by rw [w64 _ (by omega)]; omega
    simp only [Gr01_Pack.l2042, size_f f hb, Option.bind_some, hw, toNat_nat]
    rw [decide_eq_true (show (at_ : Int) < (al.length : Int) by omega), cond_true]
    have g1 : (decide (0 ≤ (at_ : Int)) && (decide ((at_ : Int) ≤ ((at_ + byN f.f0 : Nat) : Int)) && decide (((at_ + byN f.f0 : Nat) : Int) ≤ (al.length : Int)))) = true := by
      rw [decide_eq_true (by omega), decide_eq_true (by omega), decide_eq_true (by omega)]; rfl
    have hj := join_f ((al.take (at_ + byN f.f0)).drop at_) (byt_part hB _ _) f hb (by rw [List.length_drop, List.length_take]; omega)
    have ht := tw_part (b := f.f0) f.b1 al q (byN f.f0) (Nat.le_refl _)
    rw [hat] at ht
    rw [gd_pos g1, hj, Option.bind_some, ht, gd_pos (lim_pos (by simp [wordsL]; omega))]
    have hs : wordsL f al (q + 1) = wordsL f al q ++ [.i (nrm f.f0 (tw f.f0 f.b1 al q (byN f.f0)))] := by
      unfold wordsL; rw [List.range_succ, List.map_append]; rfl
    rw [hs, hsm] at ih
    exact ih
theorem rpack_f (s : ByteArray) (hs : s.size ≤ 255) (f : D) (hb : okBits f.f0) : Gr01_Pack.f s f = some (wordsL f (alN s (byN f.f0)) (totN s.size (byN f.f0) / byN f.f0), 0) := by
  have h234 := byN_234 hb
  have ht := tot_bd (s := s.size) h234
  have hmod : totN s.size (byN f.f0) % byN f.f0 = 0 := by unfold totN; exact Nat.mul_mod_left _ _
  unfold Gr01_Pack.f
  rw [valid_r, ok_true hb, Option.bind_some, Bool.not_true, cond_false, decide_eq_false (show ¬ (s.size : Int) > 255 by omega), cond_false]
  have q1 := fun κ => rpack1_l s hs f κ s.size 0 NN (by omega) (by omega) (by have := le_NN; omega)
  rw [show ((0 : Nat) : Int) = 0 from rfl, List.take_zero] at q1
  rw [q1]
  have q2 := fun κ => rpad_l f hb κ (totN s.size (byN f.f0) - 1 - s.size) NN (.i (s.size : Int) :: ubytes s) (by simp [ub_len]; omega) (by omega) (by
    rw [List.length_cons, ub_len, show s.size + 1 + (totN s.size (byN f.f0) - 1 - s.size) = totN s.size (byN f.f0) by omega]; exact hmod) (by have := le_NN; omega)
  simp only [q2]
  have hal : (.i (s.size : Int) :: ubytes s) ++ List.replicate (totN s.size (byN f.f0) - 1 - s.size) (D.i 0) = alN s (byN f.f0) := rfl
  rw [hal]
  have hdl : totN s.size (byN f.f0) / byN f.f0 ≤ totN s.size (byN f.f0) := Nat.div_le_self _ _
  have hq0 : (0 : Int) ≤ ((totN s.size (byN f.f0) : Nat) : Int) / (byN f.f0 : Int) := Int.ediv_nonneg (by omega) (by omega)
  have q3 := fun κ => rpack3_l f hb (alN s (byN f.f0)) (al_byt s hs _) (totN s.size (byN f.f0) / byN f.f0) (by omega) (by rw [al_len s h234, Nat.div_mul_cancel (Nat.dvd_of_mod_eq_zero hmod)]) κ (totN s.size (byN f.f0) / byN f.f0) 0 NN (by omega) (by omega) (by have := le_NN; omega)
  rw [show ((0 * byN f.f0 : Nat) : Int) = 0 by simp] at q3
  exact (q3 _).trans rfl
/-! ### the words of an area -/
def okB (b : Int) : Bool := (b == 16 || b == 24) || b == 32
def wordR (d f : D) : List D × Int :=
  if okB f.f0 = true then (if d.b1 = true then (if d.s0.size ≤ 255 then (wordsL f (alN d.s0 (byN f.f0)) (totN d.s0.size (byN f.f0) / byN f.f0), 0) else ([], 2)) else (d.l2.map fun x => .i (nrm f.f0 x.int), 0)) else ([], 3)
theorem okB_iff {b : Int} (h : okB b = true) : okBits b := by
  apply Classical.byContradiction
  intro hn
  have := ok_false hn
  unfold okB at h
  rw [this] at h; cases h
theorem Norm_f (v b : Int) (hb : okBits b) : Gword_Norm.f v b = some (nrm b v, 0) := by
  unfold Gword_Norm.f
  rw [show Gword_sized.f b = some ((b == 16 || b == 24) || b == 32) from rfl, ok_true hb, Option.bind_some, Bool.not_true, cond_false, norm_f v b hb]; rfl
theorem rNorm_f (v b : Int) (hb : okBits b) : Gr01_Norm.f v b = some (nrm b v, 0) := by
  unfold Gr01_Norm.f
  rw [show Gr01_Bits.f b = some ((b == 16 || b == 24) || b == 32) from rfl, ok_true hb, Option.bind_some, Bool.not_true, cond_false, rnorm_f v b hb]; rfl
theorem ints_l (f : D) (hb : okBits f.f0) (l : List D) (hl : l.length ≤ 1000000) (κ : List D → Option (List D × Int)) : ∀ (n i k : Nat), l.length - i = n → i ≤ l.length → n < k →
    Gocode_Words.l250 k f ((l.take i).map fun x => .i (nrm f.f0 x.int)) l (l.length : Int) (i : Int) κ = κ (l.map fun x => .i (nrm f.f0 x.int))
  | 0, i, k, hn, hi, hk => by
    obtain ⟨k, rfl⟩ : ∃ m, k = m + 1 := ⟨k - 1, by omega⟩
    obtain rfl : i = l.length := by omega
    simp only [Gocode_Words.l250]
    rw [decide_eq_false (by omega), cond_false, List.take_length]
  | n + 1, i, k, hn, hi, hk => by
    obtain ⟨k, rfl⟩ : ∃ m, k = m + 1 := ⟨k - 1, by omega⟩
    have hlt : i < l.length := by omega
    have ih := ints_l f hb l hl κ n (i + 1) k (by omega) (by omega) (by omega)
    have e0 : (f.cell 0).int = f.f0 := rfl
    simp only [Gocode_Words.l250, toNat_nat, e0]
    rw [decide_eq_true (show (i : Int) < (l.length : Int) by omega), cond_true, gd_pos (inB_pos (by omega)), Norm_f _ _ hb, Option.bind_some, gd_pos (lim_pos (by simp; omega)), w_succ i (by omega)]
    rw [take_succ' _ l hlt] at ih
    exact ih
theorem rints_l (d f : D) (hb : okBits f.f0) (hl : d.l2.length ≤ 1000000) (κ : List D → Option (List D × Int)) : ∀ (n i k : Nat), d.l2.length - i = n → i ≤ d.l2.length → n < k →
    Gr06_Words.l250 k d f ((d.l2.take i).map fun x => .i (nrm f.f0 x.int)) (i : Int) κ = κ (d.l2.map fun x => .i (nrm f.f0 x.int))
  | 0, i, k, hn, hi, hk => by
    obtain ⟨k, rfl⟩ : ∃ m, k = m + 1 := ⟨k - 1, by omega⟩
    obtain rfl : i = d.l2.length := by omega
    have e : ((d.cell 2).list.length : Int) = (d.l2.length : Int) := rfl
    simp only [Gr06_Words.l250]
    rw [e, decide_eq_false (by omega), cond_false, List.take_length]
  | n + 1, i, k, hn, hi, hk => by
    obtain ⟨k, rfl⟩ : ∃ m, k = m + 1 := ⟨k - 1, by omega⟩
    have hlt : i < d.l2.length := by omega
    have e : (d.cell 2).list.length = d.l2.length := rfl
    have ih := rints_l d f hb hl κ n (i + 1) k (by omega) (by omega) (by omega)
    have e0 : (f.cell 0).int = f.f0 := rfl
    simp only [Gr06_Words.l250, toNat_nat, e0]
    rw [decide_eq_true (show (i : Int) < ((d.cell 2).list.length : Int) by omega), cond_true, gd_pos (inB_pos (by omega)), rNorm_f _ _ hb, Option.bind_some, gd_pos (lim_pos (by simp; omega)), w_succ i (by omega)]
    rw [take_succ' _ d.l2 hlt] at ih
    exact ih
theorem words_ok (d f : D) (hl : d.l2.length ≤ 1000000) : Gocode_Words.f d f = some (wordR d f) := by
  have e1 : (d.cell 1).bool = d.b1 := rfl
  unfold Gocode_Words.f wordR
  rw [valid_w, Option.bind_some, e1, show ((f.f0 == 16 || f.f0 == 24) || f.f0 == 32) = okB f.f0 from rfl]
  cases ho : okB f.f0 with
  | false => rfl
  | true =>
    have hb := okB_iff ho
    rw [Bool.not_true, cond_false, if_pos rfl]
    cases ht : d.b1 with
    | true =>
      rw [cond_true, if_pos rfl]
      by_cases hs : d.s0.size ≤ 255
      · have q := pack_f d.s0 hs f hb
        rw [show (d.cell 0).str = d.s0 from rfl, q, if_pos hs]; rfl
      · rw [if_neg hs]
        unfold Gword_Pack.f
        rw [valid_w, ok_true hb, Option.bind_some, Bool.not_true, cond_false, decide_eq_true (show ((d.cell 0).str.size : Int) > 255 by have : (d.cell 0).str = d.s0 := rfl; rw [this]; omega)]; rfl
    | false =>
      rw [cond_false, if_neg (by decide)]
      have q := fun κ => ints_l f hb d.l2 hl κ d.l2.length 0 NN (by omega) (by omega) (by have := le_NN; omega)
      rw [show ((0 : Nat) : Int) = 0 from rfl, List.take_zero, List.map_nil] at q
      exact q _
theorem rwords_ok (d f : D) (hl : d.l2.length ≤ 1000000) : Gr06_Words.f d f = some (wordR d f) := by
  have e1 : (d.cell 1).bool = d.b1 := rfl
  unfold Gr06_Words.f wordR
  rw [valid_r, Option.bind_some, e1, show ((f.f0 == 16 || f.f0 == 24) || f.f0 == 32) = okB f.f0 from rfl]
  cases ho : okB f.f0 with
  | false => rfl
  | true =>
    have hb := okB_iff ho
    rw [Bool.not_true, cond_false, if_pos rfl]
    cases ht : d.b1 with
    | true =>
      rw [cond_true, if_pos rfl]
      by_cases hs : d.s0.size ≤ 255
      · have q := rpack_f d.s0 hs f hb
        rw [show (d.cell 0).str = d.s0 from rfl, q, if_pos hs]; rfl
      · rw [if_neg hs]
        unfold Gr01_Pack.f
        rw [valid_r, ok_true hb, Option.bind_some, Bool.not_true, cond_false, decide_eq_true (show ((d.cell 0).str.size : Int) > 255 by have : (d.cell 0).str = d.s0 := rfl; rw [this]; omega)]; rfl
    | false =>
      rw [cond_false, if_neg (by decide)]
      have q := fun κ => rints_l d f hb hl κ d.l2.length 0 NN (by omega) (by omega) (by have := le_NN; omega)
      rw [show ((0 : Nat) : Int) = 0 from rfl, List.take_zero, List.map_nil] at q
      exact q _
theorem wordR_len (d f : D) (hl : d.l2.length ≤ 1000000) : (wordR d f).1.length ≤ 1000000 := by
  unfold wordR
  split
  · rename_i ho
    have h234 := byN_234 (okB_iff ho)
    split
    · split
      · have ht := tot_bd (s := d.s0.size) h234
        have hd := Nat.div_le_self (totN d.s0.size (byN f.f0)) (byN f.f0)
        simp only [wordsL, List.length_map, List.length_range]; omega
      · exact Nat.zero_le _
    · simpa using hl
  · exact Nat.zero_le _
/-! ### where areas lie -/
def layL (f : D) : List D → Int → List D × Int
  | [], a => ([], a)
  | d :: l, a => (.i a :: (layL f l (a + ((wordR d f).1.length : Int))).1, (layL f l (a + ((wordR d f).1.length : Int))).2)
theorem layL_len (f : D) : ∀ (l : List D) (a : Int), (layL f l a).1.length = l.length
  | [], a => rfl
  | d :: l, a => by simp only [layL, List.length_cons, layL_len f l]
theorem lay_l (f : D) (l : List D) (hl : l.length ≤ 2000) (hw : ∀ d ∈ l, d.l2.length ≤ 1000000) (κ : List D × Int → Option (List D × Int × Int)) : ∀ (n i k : Nat) (out : List D) (a : Int), l.length - i = n → i ≤ l.length → n < k → out.length ≤ i → 0 ≤ a → a ≤ 200 + 1000000 * (i : Int) →
    Gocode_Layout.l1018 k f out a l (l.length : Int) (i : Int) κ = κ (out ++ (layL f (l.drop i) a).1, (layL f (l.drop i) a).2)
  | 0, i, k, out, a, hn, hi, hk, ho, h0, h1 => by
    obtain ⟨k, rfl⟩ : ∃ m, k = m + 1 := ⟨k - 1, by omega⟩
    obtain rfl : i = l.length := by omega
    simp only [Gocode_Layout.l1018]
    rw [decide_eq_false (by omega), cond_false, List.drop_length, layL, List.append_nil]
  | n + 1, i, k, out, a, hn, hi, hk, ho, h0, h1 => by
    obtain ⟨k, rfl⟩ : ∃ m, k = m + 1 := ⟨k - 1, by omega⟩
    have hlt : i < l.length := by omega
    have hm := hw _ (rd_mem hlt)
    have hwl := wordR_len (rd l i) f hm
    have ih := lay_l f l hl hw κ n (i + 1) k (out ++ [.i a]) (a + ((wordR (rd l i) f).1.length : Int)) (by omega) (by omega) (by omega) (by simp; omega) (by omega) (by omega)
    rw [drop_rd l i hlt, layL]
    simp only [Gocode_Layout.l1018, toNat_nat]
    rw [decide_eq_true (show (i : Int) < (l.length : Int) by omega), cond_true, gd_pos (inB_pos (by omega)), gd_pos (lim_pos (by simp; omega)), words_ok _ _ hm, Option.bind_some, w_succ i (by omega), w64 _ (by omega), ih]
    simp
theorem rlay_l (c f : D) (hl : c.data.length ≤ 2000) (hw : ∀ d ∈ c.data, d.l2.length ≤ 1000000) (κ : List D × Int → Option (List D × Int × Int)) : ∀ (n i k : Nat) (out : List D) (a : Int), c.data.length - i = n → i ≤ c.data.length → n < k → out.length ≤ i → 0 ≤ a → a ≤ 200 + 1000000 * (i : Int) →
    Gr06_Layout.l1018 k c f out a (i : Int) κ = κ (out ++ (layL f (c.data.drop i) a).1, (layL f (c.data.drop i) a).2)
  | 0, i, k, out, a, hn, hi, hk, ho, h0, h1 => by
    obtain ⟨k, rfl⟩ : ∃ m, k = m + 1 := ⟨k - 1, by omega⟩
    obtain rfl : i = c.data.length := by omega
    have e : ((c.cell 1).list.length : Int) = (c.data.length : Int) := rfl
    simp only [Gr06_Layout.l1018]
    rw [e, decide_eq_false (by omega), cond_false, List.drop_length, layL, List.append_nil]
  | n + 1, i, k, out, a, hn, hi, hk, ho, h0, h1 => by
    obtain ⟨k, rfl⟩ : ∃ m, k = m + 1 := ⟨k - 1, by omega⟩
    have hlt : i < c.data.length := by omega
    have e : (c.cell 1).list.length = c.data.length := rfl
    have hm : (rd (c.cell 1).list i).l2.length ≤ 1000000 := hw _ (rd_mem hlt)
    have hwl := wordR_len (rd (c.cell 1).list i) f hm
    have ih := rlay_l c f hl hw κ n (i + 1) k (out ++ [.i a]) (a + ((wordR (rd (c.cell 1).list i) f).1.length : Int)) (by omega) (by omega) (by omega) (by simp; omega) (by omega) (by omega)
    rw [drop_rd c.data i hlt, layL]
    simp only [Gr06_Layout.l1018, toNat_nat]
    rw [decide_eq_true (show (i : Int) < ((c.cell 1).list.length : Int) by omega), cond_true, gd_pos (inB_pos (by omega)), rwords_ok _ _ hm, Option.bind_some, gd_pos (lim_pos (by simp; omega)), w_succ i (by omega), w64 _ (by omega), ih]
    simp
def layR (c f : D) : List D × Int × Int := if checkI c = 0 then (if okB f.f0 = true then (if (layL f c.data 200).2 > 8000 then ([], 0, 2) else ((layL f c.data 200).1, (layL f c.data 200).2, 0)) else ([], 0, 3)) else ([], 0, checkI c)
theorem layout_f (c f : D) (hf : Fine c) : Gocode_Layout.f c f = some (layR c f) := by
  unfold Gocode_Layout.f layR
  rw [check_f c hf, Option.bind_some]
  by_cases g : checkI c = 0
  · have hv := check_ok hf g
    have hlim := hv.lim
    rw [bne0 g, cond_false, if_pos g, valid_w, Option.bind_some, show ((f.f0 == 16 || f.f0 == 24) || f.f0 == 32) = okB f.f0 from rfl]
    cases ho : okB f.f0 with
    | false => rfl
    | true =>
      rw [Bool.not_true, cond_false, if_pos rfl]
      have q := fun κ => lay_l f c.data hlim.2.2.2.1 (fun d hd => (hf.w d hd).2) κ c.data.length 0 NN [] 200 (by omega) (by omega) (by have := le_NN; omega) (by simp) (by omega) (by omega)
      rw [show ((0 : Nat) : Int) = 0 from rfl, List.drop_zero, List.nil_append] at q
      refine (q _).trans ?_
      simp only [Bool.cond_eq_ite, decide_eq_true_eq]
      split <;> rfl
  · rw [bne_iff_ne.2 g, cond_true, if_neg g]
theorem rlayout_ref (c f : D) (hf : Fine c) : Gr06_Layout.f c f = some (layR c f) := by
  unfold Gr06_Layout.f layR
  rw [check_ref c hf, Option.bind_some]
  by_cases g : checkI c = 0
  · have hv := check_ok hf g
    have hlim := hv.lim
    rw [bne0 g, cond_false, if_pos g, valid_r, Option.bind_some, show ((f.f0 == 16 || f.f0 == 24) || f.f0 == 32) = okB f.f0 from rfl]
    cases ho : okB f.f0 with
    | false => rfl
    | true =>
      rw [Bool.not_true, cond_false, if_pos rfl]
      have q := fun κ => rlay_l c f hlim.2.2.2.1 (fun d hd => (hf.w d hd).2) κ c.data.length 0 NN [] 200 (by omega) (by omega) (by have := le_NN; omega) (by simp) (by omega) (by omega)
      rw [show ((0 : Nat) : Int) = 0 from rfl, List.drop_zero, List.nil_append] at q
      refine (q _).trans ?_
      simp only [Bool.cond_eq_ite, decide_eq_true_eq]
      split <;> rfl
  · rw [bne_iff_ne.2 g, cond_true, if_neg g]
theorem layR_len {c f : D} (hf : Fine c) : (layR c f).1.length ≤ 1000000 := by
  unfold layR
  split
  · split
    · split
      · exact Nat.zero_le _
      · show (layL f c.data 200).1.length ≤ _
        rw [layL_len]; exact hf.d
    · exact Nat.zero_le _
  · exact Nat.zero_le _
/-! ### the law -/
theorem lays_pure (c f d : D) (hw : Wide c) : Gw06_OcodeLays.f c f d = some true := by
  obtain ⟨b, hb, hf⟩ := heavy_f c hw
  unfold Gw06_OcodeLays.f
  rw [hb, Option.bind_some]
  by_cases h : (b || decide (((d.cell 2).list.length : Int) > 10000) || decide (((d.cell 0).str.size : Int) > 10000)) = true
  · rw [h, cond_true, awake_f]; rfl
  · have h := Bool.not_eq_true _ ▸ h
    rw [h, cond_false]
    simp only [Bool.or_eq_false_iff, decide_eq_false_iff_not] at h
    obtain ⟨⟨rfl, h2⟩, h3⟩ := h
    obtain ⟨hf, -⟩ := hf rfl
    have hd : d.l2.length ≤ 1000000 := by have : (d.cell 2).list = d.l2 := rfl; rw [this] at h2; omega
    rw [layout_f c f hf, Option.bind_some, rlayout_ref c f hf, Option.bind_some, words_ok d f hd, Option.bind_some, rwords_ok d f hd, Option.bind_some, eqints_self _ (layR_len hf), Option.bind_some]
    simp only [beq_self_eq_true, Bool.and_self, Bool.true_and, cond_true, eqints_self _ (wordR_len d f hd), Option.bind_some, awake_f]
end Go.Pv
