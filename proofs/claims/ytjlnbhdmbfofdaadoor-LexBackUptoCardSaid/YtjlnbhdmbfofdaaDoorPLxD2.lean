/- What the functions answer, in plain words: the plain laws. -/
import Derived.Test.YtjlnbhdmbfofdaaDoorPLxD1
import Derived.Test.YtjlnbhdmbfofdaaDoorPLxC
set_option linter.unusedVariables false
set_option linter.unusedSimpArgs false
namespace Go.Pv
open Go.Lx
open Go.Proofs.YtjlnbhdmbfofdaaDoor.Lx (quoteL quoteR qByte)
open Go.Proofs.Lx (hexF hexD)
set_option maxRecDepth 20000
theorem app_arr (a b : List UInt8) : (⟨a.toArray⟩ : ByteArray) ++ ⟨b.toArray⟩ = ⟨(a ++ b).toArray⟩ := by
  refine bytes_eq ?_
  rw [app_data]
theorem arr_data (s : ByteArray) : (⟨s.data.toList.toArray⟩ : ByteArray) = s := bytes_eq rfl
theorem u8_eq (c : UInt8) (k : Nat) (hk : k < 256) : (c = UInt8.ofNat k) ↔ c.toNat = k := by
  constructor
  · intro h; rw [h]; simpa using hk
  · intro h; rw [← h]; simp
/-! ### Strings -/
theorem rquote_l (s : ByteArray) (hs : s.size ≤ 1048576) (κ : (ByteArray × ByteArray) → Option (ByteArray × Int)) : ∀ (n i k : Nat) (acc : List UInt8), s.size - i ≤ n → n < k → i ≤ s.size → acc.length ≤ 2 * i + 1 →
    Gr02_Quote.l58 k s ⟨acc.toArray⟩ (i : Int) κ = match quoteL (Lx s i) with | none => some (strNil, 3) | some b => κ (s, ⟨(acc ++ b).toArray⟩) := by
  intro n
  induction n with
  | zero =>
    intro i k acc h1 h2 h3 h4
    obtain ⟨k, rfl⟩ : ∃ k', k = k' + 1 := ⟨k - 1, by omega⟩
    simp only [Gr02_Quote.l58]
    rw [decide_eq_false (show ¬ (i : Int) < (s.size : Int) by omega), cond_false, Lx_nil (by omega)]
    simp [quoteL]
  | succ n ih =>
    intro i k acc h1 h2 h3 h4
    obtain ⟨k, rfl⟩ : ∃ k', k = k' + 1 := ⟨k - 1, by omega⟩
    simp only [Gr02_Quote.l58]
    by_cases hi : i < s.size
    · obtain ⟨c, hc, hb⟩ := Lx_cons hi
      have hE : ∀ k : Nat, ((c.toNat : Int) == ((k : Nat) : Int)) = (c.toNat == k) := fun k => beqI _ k
      rw [decide_eq_true (show (i : Int) < (s.size : Int) by omega), cond_true, gd_pos (inB_pos ⟨by omega, by omega⟩), toNat_nat, hb, hc, w_succ i (by omega)]
      rw [show ((c.toNat : Int) == 10) = (c.toNat == 10) from hE 10, show ((c.toNat : Int) == 9) = (c.toNat == 9) from hE 9, show ((c.toNat : Int) == 42) = (c.toNat == 42) from hE 42, show ((c.toNat : Int) == 34) = (c.toNat == 34) from hE 34]
      rw [show (32 : Int) = ((32 : Nat) : Int) from rfl, show (126 : Int) = ((126 : Nat) : Int) from rfl, dlt, dgt]
      have hex : s.extract i ((i + 1 : Nat) : Int).toNat = ⟨[c].toArray⟩ := by
        rw [toNat_nat, ext_eq, hc, show i + 1 - i = 1 by omega]; rfl
      have hg : (decide ((0 : Int) ≤ (i : Int)) && (decide ((i : Int) ≤ ((i + 1 : Nat) : Int)) && decide (((i + 1 : Nat) : Int) ≤ (s.size : Int)))) = true := by
        rw [decide_eq_true (show (0 : Int) ≤ (i : Int) by omega), decide_eq_true (show (i : Int) ≤ ((i + 1 : Nat) : Int) by omega), decide_eq_true (show ((i + 1 : Nat) : Int) ≤ (s.size : Int) by omega)]; rfl
      have fin : ∀ x : List UInt8, qByte c = some x → x.length ≤ 2 → Gr02_Quote.l58 k s ⟨(acc ++ x).toArray⟩ ((i + 1 : Nat) : Int) κ = match quoteL (c :: Lx s (i + 1)) with | none => some (strNil, 3) | some b => κ (s, ⟨(acc ++ b).toArray⟩) := fun x hx hl => by
        rw [ih (i + 1) k (acc ++ x) (by omega) (by omega) (by omega) (by rw [List.length_append]; omega)]
        simp only [quoteL, hx, Option.bind_some]
        cases quoteL (Lx s (i + 1)) with
        | none => rfl
        | some b => simp
      have two : ∀ (z : ByteArray) (x : List UInt8), z = ⟨x.toArray⟩ → x.length ≤ 2 → decide ((⟨acc.toArray⟩ : ByteArray).size + z.size ≤ maxS) = true := fun z x hz hl => by
        rw [hz]
        exact decide_eq_true (by rw [toD_size, toD_size]; unfold maxS; omega)
      have q10 : (c = 10) ↔ c.toNat = 10 := u8_eq c 10 (by omega)
      have q9 : (c = 9) ↔ c.toNat = 9 := u8_eq c 9 (by omega)
      have q42 : (c = 42) ↔ c.toNat = 42 := u8_eq c 42 (by omega)
      have q34 : (c = 34) ↔ c.toNat = 34 := u8_eq c 34 (by omega)
      have qlo : (c < 32) ↔ c.toNat < 32 := UInt8.lt_iff_toNat_lt
      have qhi : (126 < c) ↔ 126 < c.toNat := UInt8.lt_iff_toNat_lt
      by_cases h10 : c.toNat = 10
      · rw [show (c.toNat == 10) = true by rw [h10]; rfl, cond_true, gd_pos (two str2a6e [42, 110] rfl (by decide)), show str2a6e = ⟨([42, 110] : List UInt8).toArray⟩ from rfl, app_arr]
        exact fin _ (by unfold qByte; rw [if_pos (q10.2 h10)]) (by decide)
      rw [show (c.toNat == 10) = false by rw [beq_eq_false_iff_ne]; exact h10, cond_false]
      by_cases h9 : c.toNat = 9
      · rw [show (c.toNat == 9) = true by rw [h9]; rfl, cond_true, gd_pos (two str2a74 [42, 116] rfl (by decide)), show str2a74 = ⟨([42, 116] : List UInt8).toArray⟩ from rfl, app_arr]
        exact fin _ (by unfold qByte; rw [if_neg (fun h => h10 (q10.1 h)), if_pos (q9.2 h9)]) (by decide)
      rw [show (c.toNat == 9) = false by rw [beq_eq_false_iff_ne]; exact h9, cond_false]
      by_cases h42 : c.toNat = 42 ∨ c.toNat = 34
      · have : ((c.toNat == 42) || (c.toNat == 34)) = true := by
          rcases h42 with h | h <;> rw [h] <;> rfl
        rw [this, cond_true, gd_pos hg, hex]
        have e2 : str2a ++ (⟨[c].toArray⟩ : ByteArray) = ⟨[42, c].toArray⟩ := by
          rw [show str2a = ⟨([42] : List UInt8).toArray⟩ from rfl, app_arr]; rfl
        have e3 : decide (str2a.size + (⟨[c].toArray⟩ : ByteArray).size ≤ maxS) = true := decide_eq_true (by
          show 1 + 1 ≤ 140737488355328
          omega)
        rw [gd_pos e3, e2, gd_pos (two _ [42, c] rfl (by simp)), app_arr]
        refine fin _ ?_ (by simp)
        unfold qByte
        rw [if_neg (fun h => h10 (q10.1 h)), if_neg (fun h => h9 (q9.1 h))]
        by_cases k42 : c = 42
        · rw [if_pos k42, k42]
        · have k34 : c = 34 := by
            rcases h42 with h | h
            · exact absurd (q42.2 h) k42
            · exact q34.2 h
          rw [if_neg k42, if_pos k34, k34]
      have : ((c.toNat == 42) || (c.toNat == 34)) = false := by
        rw [Bool.eq_false_iff]
        simpa using h42
      rw [this, cond_false]
      have n42 : ¬ c = 42 := fun h => h42 (.inl (q42.1 h))
      have n34 : ¬ c = 34 := fun h => h42 (.inr (q34.1 h))
      by_cases hbad : c.toNat < 32 ∨ 126 < c.toNat
      · have : (decide (c.toNat < 32) || decide (126 < c.toNat)) = true := by simpa using hbad
        rw [this, cond_true]
        have hq : qByte c = none := by
          unfold qByte
          rw [if_neg (fun h => h10 (q10.1 h)), if_neg (fun h => h9 (q9.1 h)), if_neg n42, if_neg n34, if_pos (hbad.imp qlo.2 qhi.2)]
        simp only [quoteL, hq, Option.bind_none]
      · have : (decide (c.toNat < 32) || decide (126 < c.toNat)) = false := by
          rw [Bool.eq_false_iff]; simpa using hbad
        rw [this, cond_false, gd_pos hg, hex, gd_pos (two _ [c] rfl (by simp)), app_arr]
        refine fin _ ?_ (by simp)
        unfold qByte
        rw [if_neg (fun h => h10 (q10.1 h)), if_neg (fun h => h9 (q9.1 h)), if_neg n42, if_neg n34, if_neg (fun h => hbad (h.imp qlo.1 qhi.1))]
    · rw [decide_eq_false (show ¬ (i : Int) < (s.size : Int) by omega), cond_false, Lx_nil (by omega)]
      simp [quoteL]
theorem quote_f (s : ByteArray) (hs : s.size ≤ 1048576) : Glex_Quote.f s = some (quoteR s) := by
  unfold Glex_Quote.f
  rw [show Nat.ble s.size 1000000000 = true from Nat.ble_eq_true_of_le (by omega), cond_true]
theorem rquote_f (s : ByteArray) (hs : s.size ≤ 1048576) : Gr02_Quote.f s = some (quoteR s) := by
  unfold Gr02_Quote.f
  have hN := le_NN
  have h := rquote_l s hs (fun y1 => bif decide ((y1.1.size : Int) > 100) then some (strNil, 2) else gd (decide (y1.2.size + str22.size ≤ maxS)) (some ((y1.2 ++ str22), 0))) s.size 0 NN [34] (by omega) (by omega) (by omega) (by simp)
  have h' : Gr02_Quote.l58 NN s str22 0 _ = _ := h
  rw [h']
  unfold quoteR
  have hL : Lx s 0 = s.data.toList := rfl
  rw [hL]
  cases hq : quoteL s.data.toList with
  | none => rfl
  | some b =>
    have hl := Go.Proofs.YtjlnbhdmbfofdaaDoor.Lx.quoteL_len _ _ hq
    rw [data_len] at hl
    simp only
    by_cases h100 : s.size ≤ 100
    · rw [if_pos h100, decide_eq_false (show ¬ (s.size : Int) > 100 by omega), cond_false, gd_pos (decide_eq_true (by rw [toD_size, show str22.size = 1 from rfl, List.length_append]; unfold maxS; simp only [List.length_cons, List.length_nil]; omega)), show str22 = ⟨([34] : List UInt8).toArray⟩ from rfl, app_arr]
      rfl
    · rw [if_neg h100, decide_eq_true (show (s.size : Int) > 100 by omega)]
      rfl
/-! ### Numbers -/
/-- The numeral of a number by a base. -/
def numF (b n : Nat) : List UInt8 := if h : n < b ∨ b < 2 then [hexD n] else numF b (n / b) ++ [hexD (n % b)]
termination_by n
decreasing_by exact Nat.div_lt_self (by omega) (by omega)
theorem numF_lt {b n : Nat} (h : n < b) : numF b n = [hexD n] := by unfold numF; rw [dif_pos (.inl h)]
theorem numF_ge {b n : Nat} (hb : 2 ≤ b) (h : b ≤ n) : numF b n = numF b (n / b) ++ [hexD (n % b)] := by
  conv => lhs; unfold numF
  rw [dif_neg (by omega)]
theorem dec_num (n : Nat) : Lib.decDigits n = numF 10 n := by
  induction n using Nat.strongRecOn with
  | _ n ih =>
    by_cases h : n < 10
    · rw [numF_lt h, Lib.decDigits, dif_pos h]
      unfold hexD; rw [if_pos h]
    · rw [numF_ge (by omega) (by omega), Lib.decDigits, dif_neg h, ih (n / 10) (by omega)]
      unfold hexD; rw [if_pos (Nat.mod_lt _ (by omega))]
theorem hex_num : ∀ (f n : Nat), n < 16 ^ f → 1 ≤ f → hexF f n = numF 16 n
  | 0, n, _, h => by omega
  | f + 1, n, h, _ => by
    by_cases h16 : n < 16
    · rw [numF_lt h16]; simp only [hexF]; rw [if_pos h16]
    · rw [numF_ge (by omega) (by omega)]
      simp only [hexF]; rw [if_neg h16]
      rw [Nat.pow_succ] at h
      have h1 : n / 16 < 16 ^ f := Nat.div_lt_of_lt_mul (by omega)
      cases f with
      | zero => rw [Nat.pow_zero] at h1; omega
      | succ f => rw [hex_num (f + 1) (n / 16) h1 (by omega)]
theorem numF_len {b : Nat} (hb : 2 ≤ b) : ∀ (m n : Nat), b ^ m ≤ n → m + 1 ≤ (numF b n).length
  | 0, n, _ => by
    by_cases h : n < b
    · rw [numF_lt h]; simp
    · rw [numF_ge hb (by omega)]; simp
  | m + 1, n, h => by
    rw [Nat.pow_succ] at h
    have h1 : b ^ m ≤ n / b := by rw [Nat.le_div_iff_mul_le (by omega)]; exact h
    have h2 : b ≤ n := Nat.le_trans (Nat.le_mul_of_pos_left b (Nat.pow_pos (by omega))) h
    have := numF_len hb m (n / b) h1
    rw [numF_ge hb h2, List.length_append]
    simp only [List.length_cons, List.length_nil]; omega
theorem dig_bt (i : Nat) (h : i < 16) : bt str30313233343536373839616263646566 i = ((hexD i).toNat : Int) := by
  have key : ∀ j : Fin 16, bt str30313233343536373839616263646566 j.val = ((hexD j.val).toNat : Int) := by decide
  exact key ⟨i, h⟩
theorem dig_step (b least : Nat) (hb : 2 ≤ b ∧ b ≤ 16) (κ : ByteArray → Option ByteArray) (n k : Nat) (acc : List UInt8) (hn : n ≤ 4294967296) (hl : acc.length ≤ 1000) (hgo : 0 < n ∨ acc.length < least) :
    Gr02_digits.l28 (k + 1) (n : Int) (b : Int) (least : Int) ⟨acc.toArray⟩ κ = Gr02_digits.l28 k ((n / b : Nat) : Int) (b : Int) (least : Int) ⟨(hexD (n % b) :: acc).toArray⟩ κ := by
  simp only [Gr02_digits.l28]
  have hm : n % b < b := Nat.mod_lt _ (by omega)
  have e1 : (n : Int).tmod (b : Int) = ((n % b : Nat) : Int) := rfl
  have e2 : (n : Int).tdiv (b : Int) = ((n / b : Nat) : Int) := rfl
  have hd : n / b ≤ n := Nat.div_le_self _ _
  generalize n / b = q at hd e2 ⊢
  have hc : (decide ((n : Int) > 0) || decide (((⟨acc.toArray⟩ : ByteArray).size : Int) < (least : Int))) = true := by
    rw [toD_size]
    simp only [Bool.or_eq_true, decide_eq_true_eq]
    omega
  have hb0 : (!((b : Int) == 0)) = true := by
    rw [Bool.not_eq_true', beq_eq_false_iff_ne]; omega
  rw [hc, cond_true, gd_pos hb0, gd_pos hb0, e1, e2, gd_pos (inB_pos ⟨by omega, by rw [show str30313233343536373839616263646566.size = 16 from rfl]; omega⟩), toNat_nat, dig_bt _ (by omega)]
  rw [gd_pos (decide_eq_true (by rw [bstr_one, toD_size]; unfold maxS; omega)), w64 (q : Int) (by omega)]
  rw [show ([D.i ((hexD (n % b)).toNat : Int)] : List D) = bD [hexD (n % b)] from rfl, bstr_bD, app_arr]
  rfl
theorem dig_l (b least : Nat) (hb : 2 ≤ b ∧ b ≤ 16) (κ : ByteArray → Option ByteArray) : ∀ (j n k : Nat) (acc : List UInt8), 0 < n → n < b ^ j → j ≤ 100 → acc.length + j ≤ 200 → n ≤ 4294967296 →
    ∃ k', k ≤ k' + 0 ∧ Gr02_digits.l28 (k + j) (n : Int) (b : Int) (least : Int) ⟨acc.toArray⟩ κ = Gr02_digits.l28 k' 0 (b : Int) (least : Int) ⟨(numF b n ++ acc).toArray⟩ κ
  | 0, n, k, acc, h0, h, _, _, _ => by rw [Nat.pow_zero] at h; omega
  | j + 1, n, k, acc, h0, h, hj, hl, hn => by
    rw [show k + (j + 1) = (k + j) + 1 by omega, dig_step b least hb κ n (k + j) acc hn (by omega) (.inl h0)]
    by_cases hlt : n < b
    · rw [numF_lt hlt, Nat.div_eq_of_lt hlt, Nat.mod_eq_of_lt hlt]
      exact ⟨k + j, by omega, rfl⟩
    · have hbn : b ≤ n := Nat.le_of_not_lt hlt
      rw [Nat.pow_succ] at h
      have h1 : n / b < b ^ j := Nat.div_lt_of_lt_mul (by rw [Nat.mul_comm]; exact h)
      have h2 : 0 < n / b := Nat.div_pos hbn (Nat.lt_of_lt_of_le (by decide) hb.1)
      clear h
      obtain ⟨k', q1, q2⟩ := dig_l b least hb κ j (n / b) k (hexD (n % b) :: acc) h2 h1 (by omega) (by simp only [List.length_cons]; omega) (Nat.le_trans (Nat.div_le_self _ _) hn)
      refine ⟨k', q1, ?_⟩
      rw [q2, numF_ge hb.1 hbn]
      simp
theorem dig_f (b least n : Nat) (hb : 2 ≤ b ∧ b ≤ 16) (hn : n ≤ 4294967295) (hlen : least ≤ (numF b n).length) (h0 : n = 0 → least = 1) : Gr02_digits.f (n : Int) (b : Int) (least : Int) = some ⟨(numF b n).toArray⟩ := by
  unfold Gr02_digits.f
  have hN := le_NN
  obtain ⟨K, hK⟩ : ∃ K, NN = (K + 1) + 33 := ⟨NN - 34, by omega⟩
  have stop : ∀ (k : Nat) (acc : List UInt8), least ≤ acc.length → Gr02_digits.l28 (k + 1) 0 (b : Int) (least : Int) ⟨acc.toArray⟩ (fun y1 => some y1) = some ⟨acc.toArray⟩ := fun k acc hl => by
    simp only [Gr02_digits.l28]
    rw [toD_size, decide_eq_false (show ¬ (0 : Int) > 0 by omega), decide_eq_false (show ¬ (acc.length : Int) < (least : Int) by omega)]
    rfl
  by_cases hz : n = 0
  · subst hz
    have hl := h0 rfl
    have := dig_step b least hb (fun y1 => some y1) 0 (K + 1 + 32) [] (by omega) (by simp) (.inr (by rw [hl]; simp))
    rw [hK]
    have h' : Gr02_digits.l28 (K + 1 + 33) 0 (b : Int) (least : Int) strNil (fun y1 => some y1) = _ := this
    have z1 : 0 / b = 0 := Nat.zero_div b
    have z2 : 0 % b = 0 := Nat.zero_mod b
    rw [z1, z2] at h'
    rw [numF_lt (show 0 < b by omega)]
    exact h'.trans (stop _ _ (by rw [hl]; simp))
  · have hp : n < b ^ 33 := by
      have : (2 : Nat) ^ 33 ≤ b ^ 33 := Nat.pow_le_pow_left hb.1 33
      have e : (2 : Nat) ^ 33 = 8589934592 := by decide
      omega
    obtain ⟨k', q1, q2⟩ := dig_l b least hb (fun y1 => some y1) 33 n (K + 1) [] (by omega) hp (by omega) (by simp) (by omega)
    rw [hK]
    have h' : Gr02_digits.l28 (K + 1 + 33) (n : Int) (b : Int) (least : Int) strNil (fun y1 => some y1) = _ := q2
    rw [h', List.append_nil]
    obtain ⟨k'', rfl⟩ : ∃ k'', k' = k'' + 1 := ⟨k' - 1, by omega⟩
    exact stop _ _ hlen
/-- How a number is written. -/
def numR (n : Int) : ByteArray × Int :=
  if n < -2147483648 ∨ n > 2147483647 then (strNil, 1) else if n < 0 then (⟨(35 :: numF 16 (n + 4294967296).toNat).toArray⟩, 0) else (⟨(numF 10 n.toNat).toArray⟩, 0)
theorem numF_le {b : Nat} (hb : 2 ≤ b) : ∀ (j n : Nat), n < b ^ j → 1 ≤ j → (numF b n).length ≤ j
  | 0, n, _, h => by omega
  | j + 1, n, h, _ => by
    by_cases hlt : n < b
    · rw [numF_lt hlt]; simp
    · rw [Nat.pow_succ] at h
      have h1 : n / b < b ^ j := Nat.div_lt_of_lt_mul (by rw [Nat.mul_comm]; exact h)
      rw [numF_ge hb (by omega), List.length_append]
      cases j with
      | zero =>
        rw [Nat.pow_zero] at h1
        have : 0 < n / b := Nat.div_pos (by omega) (by omega)
        omega
      | succ j =>
        have := numF_le hb (j + 1) (n / b) h1 (by omega)
        simp only [List.length_cons, List.length_nil]; omega
theorem number_f (n : Int) : Glex_Number.f n = some (numR n) := by
  unfold Glex_Number.f numR
  by_cases ho : n < -2147483648 ∨ n > 2147483647
  · rw [if_pos ho, show (decide (n < (-2147483648)) || decide (n > 2147483647)) = true by simpa using ho]
    rfl
  · rw [if_neg ho, show (decide (n < (-2147483648)) || decide (n > 2147483647)) = false by rw [Bool.eq_false_iff]; simpa using ho, cond_false]
    by_cases hn : n < 0
    · rw [if_pos hn, decide_eq_true hn, cond_true, w64 _ (by omega)]
      have hf : Gstrconv_FormatInt.f (n + 4294967296) 16 = some ⟨(numF 16 (n + 4294967296).toNat).toArray⟩ := by
        unfold Gstrconv_FormatInt.f
        rw [show (((16 : Int) == 16) && (decide (0 ≤ n + 4294967296) && decide (n + 4294967296 < 4294967296))) = true by
          rw [decide_eq_true (show 0 ≤ n + 4294967296 by omega), decide_eq_true (show n + 4294967296 < 4294967296 by omega)]; rfl, cond_true, hex_num 20 _ (Nat.lt_of_lt_of_le (show (n + 4294967296).toNat < 4294967296 by omega) (by decide)) (by omega)]
      have hle := numF_le (b := 16) (by omega) 8 (n + 4294967296).toNat (by have : (16 : Nat) ^ 8 = 4294967296 := by decide
                                                                            omega) (by omega)
      rw [hf, Option.bind_some, gd_pos (decide_eq_true (by rw [toD_size (numF 16 _), show str23.size = 1 from rfl]; unfold maxS; omega)), show str23 = ⟨([35] : List UInt8).toArray⟩ from rfl, app_arr]
      rfl
    · rw [if_neg hn, decide_eq_false hn, cond_false]
      unfold Gstrconv_Itoa.f
      rw [show (decide (-9223372036854775808 ≤ n) && decide (n ≤ 9223372036854775807)) = true by
        rw [decide_eq_true (show -9223372036854775808 ≤ n by omega), decide_eq_true (show n ≤ 9223372036854775807 by omega)]; rfl, cond_true, Option.bind_some]
      unfold Lib.itoa
      rw [if_neg hn, dec_num]
theorem rnumber_f (n : Int) : Gr02_Number.f n = some (numR n) := by
  unfold Gr02_Number.f numR
  by_cases ho : n < -2147483648 ∨ n > 2147483647
  · rw [if_pos ho, show (decide (n < (-2147483648)) || decide (n > 2147483647)) = true by simpa using ho]
    rfl
  · rw [if_neg ho, show (decide (n < (-2147483648)) || decide (n > 2147483647)) = false by rw [Bool.eq_false_iff]; simpa using ho, cond_false]
    by_cases hn : n < 0
    · rw [if_pos hn, decide_eq_true hn, cond_true, w64 _ (by omega)]
      obtain ⟨u, hu⟩ : ∃ u : Nat, n + 4294967296 = (u : Int) := ⟨(n + 4294967296).toNat, by omega⟩
      rw [hu, show ((u : Int)).toNat = u from rfl]
      have hlen := numF_len (b := 16) (by omega) 7 u (by have : (16 : Nat) ^ 7 = 268435456 := by decide
                                                         omega)
      have hle := numF_le (b := 16) (by omega) 8 u (by have : (16 : Nat) ^ 8 = 4294967296 := by decide
                                                       omega) (by omega)
      have hd := dig_f 16 8 u (by omega) (by omega) hlen (by omega)
      have hd : Gr02_digits.f (u : Int) 16 8 = _ := hd
      rw [hd, Option.bind_some, gd_pos (decide_eq_true (by rw [toD_size (numF 16 _), show str23.size = 1 from rfl]; unfold maxS; omega)), show str23 = ⟨([35] : List UInt8).toArray⟩ from rfl, app_arr]
      rfl
    · rw [if_neg hn, decide_eq_false hn, cond_false]
      obtain ⟨u, rfl⟩ : ∃ u : Nat, n = (u : Int) := ⟨n.toNat, by omega⟩
      rw [show ((u : Int)).toNat = u from rfl]
      have hd := dig_f 10 1 u (by omega) (by omega) (by
        by_cases h : u < 10
        · rw [numF_lt h]; simp
        · rw [numF_ge (by omega) (by omega)]; simp) (fun _ => rfl)
      have hd : Gr02_digits.f (u : Int) 10 1 = _ := hd
      rw [hd, Option.bind_some]
theorem law_quotes (s : ByteArray) (hs : s.size ≤ 1048576) (n : Int) : Gw02_LexQuotes.f s n = some true := by
  unfold Gw02_LexQuotes.f
  rw [quote_f s hs, Option.bind_some, rquote_f s hs, Option.bind_some, number_f, Option.bind_some, rnumber_f, Option.bind_some]
  simp only [beq_self_eq_true, Bool.and_true, cond_true]
  rw [awake_f]
  rfl
end Go.Pv

namespace Go.Pv
open Go.Lx
open Go.Proofs.YtjlnbhdmbfofdaaDoor.Lx (quoteL quoteR qByte)
open Go.Proofs.Lx (hexF hexD)
set_option maxRecDepth 20000
/-- Nothing comes behind, or a blank. -/
def Ends (r : List UInt8) : Prop := r = [] ∨ ∃ x, r = 32 :: x
theorem tw_app (p : UInt8 → Bool) (h32 : p 32 = false) (w r : List UInt8) (hw : ∀ c ∈ w, p c = true) (hr : Ends r) : (w ++ r).takeWhile p = w := by
  induction w with
  | nil =>
    rcases hr with rfl | ⟨x, rfl⟩
    · rfl
    · rw [List.nil_append, List.takeWhile_cons, h32]; rfl
  | cons c w ih =>
    rw [List.cons_append, List.takeWhile_cons, hw c (List.mem_cons_self ..), if_pos rfl, ih fun d hd => hw d (List.mem_cons_of_mem _ hd)]
/-! ### Strings -/
theorem textL_34 (r : List UInt8) : textL (34 :: r) = some ([], 1) := by rw [text_eq, if_pos (by decide)]
theorem textL_plain (c : UInt8) (r : List UInt8) (h1 : ¬ c.toNat = 34) (h2 : ¬ (c.toNat < 32 ∨ 126 < c.toNat)) (h3 : ¬ c.toNat = 42) : textL (c :: r) = match textL r with | some (xs, n) => some (c :: xs, n + 1) | none => none := by
  conv => lhs; unfold textL
  rw [if_neg h1, if_neg h2, if_neg h3]
  rfl
theorem textL_esc (e x : UInt8) (r : List UInt8) (he : escU e = some x) : textL (42 :: e :: r) = match textL r with | some (xs, n) => some (x :: xs, n + 2) | none => none := by
  conv => lhs; unfold textL
  have h1 : ¬ (42 : UInt8).toNat = 34 := by decide
  have h2 : ¬ ((42 : UInt8).toNat < 32 ∨ 126 < (42 : UInt8).toNat) := by decide
  rw [if_neg h1, if_neg h2, if_pos (show (42 : UInt8).toNat = 42 from rfl)]
  simp only [he]
  cases textL r <;> rfl
theorem textL_quote : ∀ (l b r : List UInt8), quoteL l = some b → textL (b ++ 34 :: r) = some (l, b.length + 1)
  | [], b, r, h => by
    obtain rfl : [] = b := by simpa [quoteL] using h
    exact textL_34 r
  | c :: l, b, r, h => by
    simp only [quoteL, Option.bind_eq_some_iff, Option.map_eq_some_iff] at h
    obtain ⟨x, hx, y, hy, rfl⟩ := h
    have ih := textL_quote l y r hy
    have esc : ∀ e, escU e = some c → x = [42, e] → textL (x ++ y ++ 34 :: r) = some (c :: l, (x ++ y).length + 1) := fun e he hxe => by
      subst hxe
      rw [show [42, e] ++ y ++ 34 :: r = 42 :: e :: (y ++ 34 :: r) by simp, textL_esc e c _ he, ih]
      simp
    unfold qByte at hx
    by_cases h10 : c = 10
    · rw [if_pos h10] at hx
      exact esc 110 (by rw [h10]; decide) (Option.some.inj hx).symm
    rw [if_neg h10] at hx
    by_cases h9 : c = 9
    · rw [if_pos h9] at hx
      exact esc 116 (by rw [h9]; decide) (Option.some.inj hx).symm
    rw [if_neg h9] at hx
    by_cases h42 : c = 42
    · rw [if_pos h42] at hx
      exact esc 42 (by rw [h42]; decide) (Option.some.inj hx).symm
    rw [if_neg h42] at hx
    by_cases h34 : c = 34
    · rw [if_pos h34] at hx
      exact esc 34 (by rw [h34]; decide) (Option.some.inj hx).symm
    rw [if_neg h34] at hx
    by_cases hb : c < 32 ∨ 126 < c
    · rw [if_pos hb] at hx; cases hx
    · rw [if_neg hb] at hx
      obtain rfl : [c] = x := Option.some.inj hx
      have e34 : ¬ c.toNat = 34 := fun h => h34 ((u8_eq c 34 (by omega)).2 h)
      have e42 : ¬ c.toNat = 42 := fun h => h42 ((u8_eq c 42 (by omega)).2 h)
      have eb : ¬ (c.toNat < 32 ∨ 126 < c.toNat) := fun h => hb (h.imp UInt8.lt_iff_toNat_lt.2 UInt8.lt_iff_toNat_lt.2)
      rw [show [c] ++ y ++ 34 :: r = c :: (y ++ 34 :: r) by simp, textL_plain c _ e34 eb e42, ih]
      simp
theorem tok_string (l b r : List UInt8) (h : quoteL l = some b) (hl : l.length ≤ 100) : tokL (34 :: b ++ 34 :: r) = .ok (⟨3, l, 0⟩, b.length + 2) := by
  rw [List.cons_append, tokL_text (by decide) (by decide) (by decide) (by decide) (by decide), textL_quote l b r h]
  simp only
  rw [if_neg (by omega)]
/-! ### Numbers -/
theorem hexD_facts (i : Nat) (h : i < 16) : hxU (hexD i) = true ∧ dvU (hexD i) = i ∧ (i < 10 → dgU (hexD i) = true) := by
  have key : ∀ j : Fin 16, hxU (hexD j.val) = true ∧ dvU (hexD j.val) = j.val ∧ (j.val < 10 → dgU (hexD j.val) = true) := by decide
  exact key ⟨i, h⟩
theorem numU_snoc (b : Nat) (l : List UInt8) (d : UInt8) : numU b (l ++ [d]) = numU b l * b + dvU d := by
  unfold numU; rw [List.foldl_append]; rfl
theorem numF_facts (b : Nat) (hb : 2 ≤ b ∧ b ≤ 16) (n : Nat) : numU b (numF b n) = n ∧ (∀ c ∈ numF b n, hxU c = true ∧ (b ≤ 10 → dgU c = true)) ∧ numF b n ≠ [] := by
  induction n using Nat.strongRecOn with
  | _ n ih =>
    by_cases h : n < b
    · rw [numF_lt h]
      obtain ⟨h1, h2, h3⟩ := hexD_facts n (by omega)
      refine ⟨?_, fun c hc => ?_, by simp⟩
      · unfold numU
        simp only [List.foldl_cons, List.foldl_nil, Nat.zero_mul, Nat.zero_add]
        exact h2
      · obtain rfl := List.mem_singleton.1 hc
        exact ⟨h1, fun hb10 => h3 (by omega)⟩
    · have hlt : n / b < n := Nat.div_lt_self (by omega) (by omega)
      have hm : n % b < b := Nat.mod_lt _ (by omega)
      obtain ⟨i1, i2, i3⟩ := ih (n / b) hlt
      obtain ⟨h1, h2, h3⟩ := hexD_facts (n % b) (by omega)
      rw [numF_ge hb.1 (by omega)]
      refine ⟨?_, fun c hc => ?_, by simp⟩
      · rw [numU_snoc, i1, h2]
        have := Nat.div_add_mod n b
        rw [Nat.mul_comm]; exact this
      · rcases List.mem_append.1 hc with hc | hc
        · exact i2 c hc
        · obtain rfl := List.mem_singleton.1 hc
          exact ⟨h1, fun hb10 => h3 (by omega)⟩
theorem dg_facts (c : UInt8) (h : dgU c = true) : smU c = false := by
  unfold dgU at h; unfold smU
  simp only [Bool.and_eq_true, decide_eq_true_eq] at h
  rw [Bool.and_eq_false_iff, decide_eq_false_iff_not]
  left; omega
theorem tok_dec (n : Nat) (hn : n ≤ 2147483647) (r : List UInt8) (hr : Ends r) : tokL (numF 10 n ++ r) = .ok (⟨2, [], n⟩, (numF 10 n).length) := by
  obtain ⟨h1, h2, h3⟩ := numF_facts 10 (by omega) n
  have hw := tw_app dgU (by decide) (numF 10 n) r (fun c hc => (h2 c hc).2 (by omega)) hr
  cases hN : numF 10 n with
  | nil => exact absurd hN h3
  | cons c w =>
    have hd : dgU c = true := (h2 c (by rw [hN]; exact List.mem_cons_self ..)).2 (by omega)
    rw [hN] at hw h1
    rw [List.cons_append] at hw ⊢
    rw [tokL_digit (dg_facts c hd) hd, hw, h1, if_neg (by omega)]
theorem tok_hex (u : Nat) (hu : u ≤ 4294967295) (r : List UInt8) (hr : Ends r) : tokL (35 :: numF 16 u ++ r) = .ok (⟨2, [], wordU u⟩, (numF 16 u).length + 1) := by
  obtain ⟨h1, h2, h3⟩ := numF_facts 16 (by omega) u
  have hw := tw_app hxU (by decide) (numF 16 u) r (fun c hc => (h2 c hc).1) hr
  rw [List.cons_append, tokL_hex (by decide) (by decide) (by decide), hw, h1, if_neg h3, if_neg (by omega)]
/-- How a number is written, as bytes. -/
def numL (n : Int) : Option (List UInt8) :=
  if n < -2147483648 ∨ n > 2147483647 then none else if n < 0 then some (35 :: numF 16 (n + 4294967296).toNat) else some (numF 10 n.toNat)
theorem numR_L (n : Int) : numR n = match numL n with | none => (strNil, 1) | some b => (⟨b.toArray⟩, 0) := by
  unfold numR numL
  by_cases h1 : n < -2147483648 ∨ n > 2147483647
  · rw [if_pos h1, if_pos h1]
  · rw [if_neg h1, if_neg h1]
    by_cases h2 : n < 0
    · rw [if_pos h2, if_pos h2]
    · rw [if_neg h2, if_neg h2]
theorem tok_num (n : Int) (b r : List UInt8) (h : numL n = some b) (hr : Ends r) : tokL (b ++ r) = .ok (⟨2, [], n⟩, b.length) ∧ b.length ≤ 20 := by
  unfold numL at h
  split at h
  · cases h
  · split at h
    · rename_i h1 h2
      obtain rfl := Option.some.inj h
      obtain ⟨u, hu⟩ : ∃ u : Nat, n + 4294967296 = (u : Int) := ⟨(n + 4294967296).toNat, by omega⟩
      rw [hu, show ((u : Int)).toNat = u from rfl]
      have hl := numF_le (b := 16) (by omega) 8 u (by have : (16 : Nat) ^ 8 = 4294967296 := by decide
                                                      omega) (by omega)
      refine ⟨?_, by simp only [List.length_cons]; omega⟩
      rw [tok_hex u (by omega) r hr]
      have : wordU u = n := by unfold wordU; rw [if_pos (by omega)]; omega
      rw [this]; rfl
    · rename_i h1 h2
      obtain rfl := Option.some.inj h
      obtain ⟨u, rfl⟩ : ∃ u : Nat, n = (u : Int) := ⟨n.toNat, by omega⟩
      rw [show ((u : Int)).toNat = u from rfl]
      have hl := numF_le (b := 10) (by omega) 10 u (by have : (10 : Nat) ^ 10 = 10000000000 := by decide
                                                       omega) (by omega)
      exact ⟨tok_dec u (by omega) r hr, by omega⟩
/-- A text of one token. -/
theorem scan_one (w : List UInt8) (t : Tk) (hw : w ≠ []) (hl : w.length ≤ 40000) (hs : skipA false w = w) (ht : tokL w = .ok (t, w.length)) : scanL w = .ok [(t, 0), (⟨0, [], 0⟩, w.length)] := by
  cases w with
  | nil => exact absurd rfl hw
  | cons c r =>
    have hr : rawL (c :: r) = ⟨[(t, 0)], none, (c :: r).length⟩ := by
      unfold rawL
      rw [raw_ok hs ht, List.drop_length]
      have hn : rawF (c :: r).length [] (c :: r).length = ⟨[], none, (c :: r).length⟩ := raw_nil (by simp [skipA])
      rw [hn, List.length_cons, Nat.sub_self]
    have := scan_of hl (by rw [hr]) (by rw [hr]; simp)
    rw [this, hr]
    rfl
theorem skip_no (c : UInt8) (r : List UInt8) (h1 : blU c = false) (h2 : ¬ c.toNat = 47) : skipA false (c :: r) = c :: r := by
  rw [skipA_f, h1, show (c.toNat == 47) = false from beq_eq_false_iff_ne.2 h2]; rfl
theorem quoteR_ok (s : ByteArray) : (quoteR s).2 = 0 ∧ (∃ b, quoteL s.data.toList = some b ∧ s.size ≤ 100 ∧ (quoteR s).1 = ⟨(34 :: b ++ [34]).toArray⟩) ∨ ((quoteR s).2 = 3 ∨ (quoteR s).2 = 2) := by
  unfold quoteR
  cases h : quoteL s.data.toList with
  | none => exact .inr (.inl rfl)
  | some b =>
    simp only
    by_cases h100 : s.size ≤ 100
    · rw [if_pos h100]; exact .inl ⟨rfl, b, rfl, h100, rfl⟩
    · rw [if_neg h100]; exact .inr (.inr rfl)
theorem one_D (w : List UInt8) (t : Tk) (hw : w ≠ []) (hl : w.length ≤ 40000) (hs : skipA false w = w) (ht : tokL w = .ok (t, w.length)) : Glex_Scan.f ⟨w.toArray⟩ = some ([tkD t 0, endD w.length], 0, 0) := by
  rw [scan_f]
  have : (⟨w.toArray⟩ : ByteArray).data.toList = w := by show w.toArray.toList = w; simp
  rw [this]
  unfold scanD
  rw [scan_one w t hw hl hs ht]
  rfl
theorem num_one (n : Int) (b : List UInt8) (h : numL n = some b) : b ≠ [] ∧ skipA false b = b ∧ b.length ≤ 40000 ∧ tokL b = .ok (⟨2, [], n⟩, b.length) := by
  obtain ⟨h1, h2⟩ := tok_num n b [] h (.inl rfl)
  rw [List.append_nil] at h1
  have hc : ∃ c r, b = c :: r ∧ (c = 35 ∨ dgU c = true) := by
    unfold numL at h
    split at h
    · cases h
    · split at h
      · exact ⟨_, _, (Option.some.inj h).symm, .inl rfl⟩
      · obtain rfl := Option.some.inj h
        obtain ⟨-, k2, k3⟩ := numF_facts 10 (by omega) n.toNat
        cases hN : numF 10 n.toNat with
        | nil => exact absurd hN k3
        | cons c r => exact ⟨c, r, rfl, .inr ((k2 c (by rw [hN]; exact List.mem_cons_self ..)).2 (by omega))⟩
  obtain ⟨c, r, rfl, hc⟩ := hc
  refine ⟨by simp, ?_, by omega, h1⟩
  rcases hc with rfl | hc
  · exact skip_no _ _ (by decide) (by decide)
  · have h48 : 48 ≤ c.toNat := by
      unfold dgU at hc; simp only [Bool.and_eq_true, decide_eq_true_eq] at hc; exact hc.1
    refine skip_no _ _ ?_ (by omega)
    unfold blU
    rw [show (c.toNat == 32) = false from beq_eq_false_iff_ne.2 (by omega), show (c.toNat == 9) = false from beq_eq_false_iff_ne.2 (by omega), show (c.toNat == 10) = false from beq_eq_false_iff_ne.2 (by omega)]
    rfl
theorem one_tail (e : Int) (he : e = 0 ∨ e = 3 ∨ e = 2) (g : Int) (hg : g = 0 ∨ g = 1) : Gw02_LexOne.p63 e g = some true := by
  unfold Gw02_LexOne.p63
  have h1 : (((((e == 0) || (e == 3)) || (e == 2)) && ((g == 0) || (g == 1))) : Bool) = true := by
    rcases he with rfl | rfl | rfl <;> rcases hg with rfl | rfl <;> rfl
  rw [h1, cond_true, awake_f]
  rfl
theorem one_num (n e : Int) (he : e = 0 ∨ e = 3 ∨ e = 2) : Gw02_LexOne.p15 n e = some true := by
  unfold Gw02_LexOne.p15
  rw [number_f, Option.bind_some, numR_L]
  cases h : numL n with
  | none => exact one_tail e he 1 (.inr rfl)
  | some b =>
    obtain ⟨h1, h2, h3, h4⟩ := num_one n b h
    simp only [beq_self_eq_true, cond_true]
    rw [one_D b _ h1 h3 h2 h4, Option.bind_some]
    have hn : (n == n) = true := beq_self_eq_true n
    show gd _ (gd _ (bif (!(((2 : Int) == 2) && (((⟨([] : List UInt8).toArray⟩ : ByteArray).toList == ByteArray.empty.toList) && ((n == n) && (((0 : Int) == 0) && true))))) then some false else Gw02_LexOne.p63 e 0)) = some true
    rw [hn]
    refine (gd_pos (by rfl)).trans ((gd_pos (by rfl)).trans ?_)
    rw [show (⟨([] : List UInt8).toArray⟩ : ByteArray) = ByteArray.empty from rfl]
    simp only [beq_self_eq_true, Bool.and_true, Bool.not_true, cond_false]
    exact one_tail e he 0 (.inl rfl)
theorem law_one (s : ByteArray) (hs : s.size ≤ 1048576) (n : Int) : Gw02_LexOne.f s n = some true := by
  unfold Gw02_LexOne.f
  rw [quote_f s hs, Option.bind_some]
  rcases quoteR_ok s with ⟨h0, b, hb, h100, h1⟩ | h
  · rw [h0, h1]
    simp only [beq_self_eq_true, cond_true]
    have hbl := Go.Proofs.YtjlnbhdmbfofdaaDoor.Lx.quoteL_len _ _ hb
    rw [data_len] at hbl
    have ht := tok_string s.data.toList b [] hb (by rw [data_len]; exact h100)
    have hlen : (34 :: b ++ [34]).length = b.length + 2 := by simp
    have hd := one_D (34 :: b ++ [34]) ⟨3, s.data.toList, 0⟩ (by simp) (by rw [hlen]; omega) (skip_no _ _ (by decide) (by decide)) (by rw [hlen]; exact ht)
    rw [hd, Option.bind_some]
    have hn : (s.data.toList.toArray.toList == s.toList) = true := by rw [toList_data]; simp
    show gd _ (gd _ (bif (!(((3 : Int) == 3) && (((⟨s.data.toList.toArray⟩ : ByteArray).toList == s.toList) && (((0 : Int) == 0) && (((0 : Int) == 0) && true))))) then some false else Gw02_LexOne.p15 n 0)) = some true
    rw [arr_data]
    refine (gd_pos (by rfl)).trans ((gd_pos (by rfl)).trans ?_)
    simp only [beq_self_eq_true, Bool.and_true, Bool.not_true, cond_false]
    exact one_num n 0 (.inl rfl)
  · have hne : ((quoteR s).2 == 0) = false := by rcases h with h | h <;> rw [h] <;> rfl
    rw [hne, cond_false]
    exact one_num n _ (.inr h)
end Go.Pv

namespace Go.Pv
open Go.Lx
open Go.Proofs.YtjlnbhdmbfofdaaDoor.Lx (quoteL quoteR qByte)
set_option maxRecDepth 20000
/-! ### Names -/
def nameU (l : List UInt8) : Bool := !(l == []) && (decide (l.length ≤ 24) && ((match l with | c :: _ => smU c | [] => false) && (l.all wdU && !(keysU.contains l))))
theorem rname_l (s : ByteArray) (hs : s.size ≤ 1048576) (κ : Unit → Option Bool) : ∀ (n i k : Nat), s.size - i ≤ n → n < k → i ≤ s.size →
    Gr02_IsName.l58 k s (i : Int) κ = bif (Lx s i).all wdU then κ () else some false := by
  intro n
  induction n with
  | zero =>
    intro i k h1 h2 h3
    obtain ⟨k, rfl⟩ : ∃ k', k = k' + 1 := ⟨k - 1, by omega⟩
    simp only [Gr02_IsName.l58]
    rw [decide_eq_false (show ¬ (i : Int) < (s.size : Int) by omega), cond_false, Lx_nil (by omega)]
    rfl
  | succ n ih =>
    intro i k h1 h2 h3
    obtain ⟨k, rfl⟩ : ∃ k', k = k' + 1 := ⟨k - 1, by omega⟩
    simp only [Gr02_IsName.l58]
    by_cases hi : i < s.size
    · obtain ⟨c, hc, hb⟩ := Lx_cons hi
      rw [decide_eq_true (show (i : Int) < (s.size : Int) by omega), cond_true, gd_pos (inB_pos ⟨by omega, by omega⟩), toNat_nat, hb, rpart_f, Option.bind_some, w_succ _ (by omega), hc, List.all_cons]
      cases wdU c with
      | true => rw [Bool.not_true, cond_false, Bool.true_and]; exact ih (i + 1) k (by omega) (by omega) (by omega)
      | false => rfl
    · rw [decide_eq_false (show ¬ (i : Int) < (s.size : Int) by omega), cond_false, Lx_nil (by omega)]
      rfl
theorem pname_l (s : ByteArray) (hs : s.size ≤ 1048576) (κ : ByteArray → Option Bool) : ∀ (n i k : Nat), s.size - i ≤ n → n < k → i ≤ s.size →
    Glex_IsName.l58 k s (s.size : Int) (i : Int) κ = bif (Lx s i).all wdU then κ s else some false := by
  intro n
  induction n with
  | zero =>
    intro i k h1 h2 h3
    obtain ⟨k, rfl⟩ : ∃ k', k = k' + 1 := ⟨k - 1, by omega⟩
    simp only [Glex_IsName.l58]
    rw [decide_eq_false (show ¬ (i : Int) < (s.size : Int) by omega), cond_false, Lx_nil (by omega)]
    rfl
  | succ n ih =>
    intro i k h1 h2 h3
    obtain ⟨k, rfl⟩ : ∃ k', k = k' + 1 := ⟨k - 1, by omega⟩
    simp only [Glex_IsName.l58]
    by_cases hi : i < s.size
    · obtain ⟨c, hc, hb⟩ := Lx_cons hi
      rw [decide_eq_true (show (i : Int) < (s.size : Int) by omega), cond_true, gd_pos (inB_pos ⟨by omega, by omega⟩), toNat_nat, hb, wordy_f, Option.bind_some, w_succ _ (by omega), hc, List.all_cons]
      cases wdU c with
      | true => rw [Bool.not_true, cond_false, Bool.true_and]; exact ih (i + 1) k (by omega) (by omega) (by omega)
      | false => rfl
    · rw [decide_eq_false (show ¬ (i : Int) < (s.size : Int) by omega), cond_false, Lx_nil (by omega)]
      rfl
theorem str_eq (s : ByteArray) : s = ⟨s.data.toList.toArray⟩ := bytes_eq rfl
theorem keys_has (s : ByteArray) : Gr02_has.f (keysU.map toD) s = some (keysU.contains s.data.toList) := by
  conv => lhs; rw [str_eq s]
  exact has_f _ _ (by decide)
theorem signs_has (s : ByteArray) : Gr02_has.f (signsU.map toD) s = some (signsU.contains s.data.toList) := by
  conv => lhs; rw [str_eq s]
  exact has_f _ _ (by decide)
theorem keys_get (s : ByteArray) : (mget K.str (.s s) (.b false) keyM).bool = keysU.contains s.data.toList := by
  conv => lhs; rw [str_eq s]
  exact key_f _
theorem rname_f (s : ByteArray) (hs : s.size ≤ 1048576) : Gr02_IsName.f s = some (nameU s.data.toList) := by
  unfold Gr02_IsName.f nameU
  have hN := le_NN
  rw [data_len]
  by_cases h0 : s.size = 0 ∨ s.size > 24
  · have hc : (((s.size : Int) == 0) || decide ((s.size : Int) > 24)) = true := by
      rcases h0 with h | h
      · rw [h]; rfl
      · rw [decide_eq_true (show (s.size : Int) > 24 by omega), Bool.or_true]
    rw [hc]
    simp only [Bool.not_true, Bool.not_false, Bool.true_or, cond_false, Option.bind_some, cond_true]
    rw [gd_pos rfl]
    rcases h0 with h | h
    · have : s.data.toList = [] := List.eq_nil_of_length_eq_zero (by rw [data_len]; exact h)
      rw [this]; rfl
    · rw [decide_eq_false (show ¬ s.size ≤ 24 by omega)]
      simp
  · have hc : (((s.size : Int) == 0) || decide ((s.size : Int) > 24)) = false := by
      rw [decide_eq_false (show ¬ (s.size : Int) > 24 by omega), Bool.or_false, beq_eq_false_iff_ne]; omega
    have hp : 0 < s.size := by omega
    obtain ⟨c, hc0, hb⟩ := Lx_cons hp
    have hL : s.data.toList = c :: Lx s 1 := hc0
    rw [hc]
    simp only [Bool.not_false, Bool.not_true, Bool.false_or, cond_true]
    rw [gd_pos (inB_pos ⟨by omega, by omega⟩), hb, rsmall_f, Option.bind_some, decide_eq_true (show s.size ≤ 24 by omega)]
    have hne : (!(s.data.toList == [])) = true := by rw [hL]; rfl
    rw [hne, Bool.true_and, Bool.true_and]
    have hm : (match s.data.toList with | c :: _ => smU c | [] => false) = smU c := by rw [hL]
    rw [hm]
    cases smU c with
    | false => rfl
    | true =>
      simp only [Bool.not_true, Bool.not_false, cond_true, Bool.false_or, Bool.true_and]
      rw [rkeys, Option.bind_some, keys_has, Option.bind_some]
      cases keysU.contains s.data.toList with
      | true => rw [cond_true, Bool.not_true, Bool.and_false]
      | false =>
        rw [cond_false, Bool.not_false, Bool.and_true]
        have h := rname_l s hs (fun y5 => some true) s.size 0 NN (by omega) (by omega) (by omega)
        have h' : Gr02_IsName.l58 NN s 0 _ = _ := h
        rw [h']
        have hL0 : Lx s 0 = s.data.toList := rfl
        rw [hL0]
        cases s.data.toList.all wdU <;> rfl
theorem pname_f (s : ByteArray) (hs : s.size ≤ 1048576) : Glex_IsName.f s = some (nameU s.data.toList) := by
  unfold Glex_IsName.f nameU
  have hN := le_NN
  rw [data_len, toList_data]
  have hnil : (s.data.toList == strNil.toList) = (s.data.toList == []) := by
    rw [toList_data, show strNil.data.toList = [] from rfl]
  rw [hnil]
  by_cases h0 : s.size = 0 ∨ s.size > 24
  · rcases h0 with h | h
    · have : s.data.toList = [] := List.eq_nil_of_length_eq_zero (by rw [data_len]; exact h)
      rw [this]; rfl
    · rw [decide_eq_true (show (s.size : Int) > 24 by omega), decide_eq_false (show ¬ s.size ≤ 24 by omega)]
      simp only [Bool.or_true, Bool.not_true, Bool.not_false, Bool.true_or, cond_false, Option.bind_some, cond_true, Bool.false_and, Bool.and_false]
      rw [gd_pos rfl]
  · have hp : 0 < s.size := by omega
    obtain ⟨c, hc0, hb⟩ := Lx_cons hp
    have hL : s.data.toList = c :: Lx s 1 := hc0
    have hne : (s.data.toList == []) = false := by rw [hL]; rfl
    rw [hne, decide_eq_false (show ¬ (s.size : Int) > 24 by omega), decide_eq_true (show s.size ≤ 24 by omega)]
    simp only [Bool.not_false, Bool.not_true, Bool.false_or, Bool.or_false, cond_true, Bool.true_and]
    rw [gd_pos (inB_pos ⟨by omega, by omega⟩), hb, small_f, Option.bind_some]
    have hm : (match s.data.toList with | c :: _ => smU c | [] => false) = smU c := by rw [hL]
    rw [hm]
    cases smU c with
    | false => rfl
    | true =>
      simp only [Bool.not_true, cond_false, Bool.true_and]
      have h := pname_l s hs (fun y3 => (Glex_keys.f).bind fun r4 => gd (decide (y3.size ≤ maxS)) (some (!((mget K.str (.s y3) (.b false) r4).bool)))) s.size 0 NN (by omega) (by omega) (by omega)
      have h' : Glex_IsName.l58 NN s (s.size : Int) 0 _ = _ := h
      rw [h']
      have hL0 : Lx s 0 = s.data.toList := rfl
      rw [hL0]
      cases s.data.toList.all wdU with
      | false => rfl
      | true =>
        simp only [cond_true]
        rw [keys_f, Option.bind_some, gd_pos (decide_eq_true (by unfold maxS; omega)), keys_get]
        simp
/-! ### What is written of a token -/
def writL (kind : Int) (S : List UInt8) (N : Int) : Option (List UInt8) :=
  if kind ≠ 2 ∧ N ≠ 0 then none
  else if kind = 1 then (if nameU S then some S else none)
  else if kind = 2 then (if S = [] then numL N else none)
  else if kind = 3 then (if S.length ≤ 100 then (quoteL S).map fun b => 34 :: b ++ [34] else none)
  else if kind = 4 then (if keysU.contains S then some S else none)
  else if kind = 5 then (if signsU.contains S then some S else none)
  else none
def WOk (x : Option (List UInt8)) (w : ByteArray) (ok : Bool) : Prop := match x with | some l => ok = true ∧ w = ⟨l.toArray⟩ | none => ok = false
theorem wok_if {S : ByteArray} {b : Bool} : WOk (if b then some S.data.toList else none) S b := by
  cases b with
  | true => exact ⟨rfl, str_eq S⟩
  | false => rfl
theorem quoteR_w (s : ByteArray) : WOk (if s.data.toList.length ≤ 100 then (quoteL s.data.toList).map fun b => 34 :: b ++ [34] else none) (quoteR s).1 ((quoteR s).2 == 0) := by
  unfold quoteR
  rw [data_len]
  cases h : quoteL s.data.toList with
  | none =>
    by_cases h100 : s.size ≤ 100
    · rw [if_pos h100]; rfl
    · rw [if_neg h100]; rfl
  | some b =>
    simp only
    by_cases h100 : s.size ≤ 100
    · rw [if_pos h100, if_pos h100]; exact ⟨rfl, rfl⟩
    · rw [if_neg h100, if_neg h100]; rfl
theorem sign_wl (m : List (D × D)) (d : D) (ls : List (List UInt8)) (hl : ls.length ≤ 1000) (κ : List (D × D) → Option (ByteArray × Bool × List (D × D))) : ∀ (n i k : Nat), ls.length - i ≤ n → n < k → i ≤ ls.length →
    Glex_written.l241658 k m d (ls.map toD) (ls.length : Int) (i : Int) κ = bif (ls.drop i).contains ((d.cell 1).str).data.toList then some ((d.cell 1).str, true, m) else κ m := by
  intro n
  induction n with
  | zero =>
    intro i k h1 h2 h3
    obtain ⟨k, rfl⟩ : ∃ k', k = k' + 1 := ⟨k - 1, by omega⟩
    simp only [Glex_written.l241658]
    rw [decide_eq_false (show ¬ (i : Int) < (ls.length : Int) by omega), cond_false, List.drop_eq_nil_of_le (by omega)]
    rfl
  | succ n ih =>
    intro i k h1 h2 h3
    obtain ⟨k, rfl⟩ : ∃ k', k = k' + 1 := ⟨k - 1, by omega⟩
    simp only [Glex_written.l241658]
    by_cases hi : i < ls.length
    · have hr : (rd (ls.map toD) i).str = ⟨ls[i].toArray⟩ := by rw [rd_map (fun l => ⟨l.toArray⟩) ls i hi]; rfl
      rw [decide_eq_true (show (i : Int) < (ls.length : Int) by omega), cond_true, gd_pos (inB_pos ⟨by omega, by rw [List.length_map]; omega⟩), toNat_nat, gd_pos (blt_pos (by rw [List.length_map]; exact hi)), hr, toList_data, toList_data, List.drop_eq_getElem_cons hi, List.contains_cons, w_succ _ (by omega)]
      have hcm : ((⟨ls[i].toArray⟩ : ByteArray).data.toList == ((d.cell 1).str).data.toList) = (((d.cell 1).str).data.toList == ls[i]) := by
        rw [Bool.eq_iff_iff, beq_iff_eq, beq_iff_eq]
        show ls[i].toArray.toList = _ ↔ _
        rw [List.toList_toArray]
        exact eq_comm
      rw [hcm]
      cases hq : (((d.cell 1).str).data.toList == ls[i]) with
      | true =>
        rw [cond_true, Bool.true_or, cond_true]
        have : (⟨ls[i].toArray⟩ : ByteArray) = (d.cell 1).str := by
          rw [beq_iff_eq] at hq
          rw [← hq]
        rw [this]
      | false => rw [cond_false, Bool.false_or]; exact ih (i + 1) k (by omega) (by omega) (by omega)
    · rw [decide_eq_false (show ¬ (i : Int) < (ls.length : Int) by omega), cond_false, List.drop_eq_nil_of_le (by omega)]
      rfl
theorem psigns_f : Glex_Signs.f = some (signsU.map toD) := by
  unfold Glex_Signs.f
  rw [signs_fields]
  rfl
theorem written_f (d : D) (hs : ((d.cell 1).str).size ≤ 1048576) : ∃ w ok, Glex_written.f d keyM = some (w, ok, keyM) ∧ WOk (writL ((d.cell 0).int) ((d.cell 1).str).data.toList ((d.cell 2).int)) w ok := by
  unfold Glex_written.f writL
  generalize hk : (d.cell 0).int = kind
  generalize hn : (d.cell 2).int = N
  generalize hS : (d.cell 1).str = S at hs ⊢
  have hN := le_NN
  by_cases h1 : kind ≠ 2 ∧ N ≠ 0
  · rw [if_pos h1, show ((kind != 2) && (N != 0)) = true by simpa using h1, cond_true]
    exact ⟨_, _, rfl, rfl⟩
  · rw [if_neg h1, show ((kind != 2) && (N != 0)) = false by rw [Bool.eq_false_iff]; simpa using h1, cond_false]
    by_cases k1 : kind = 1
    · rw [if_pos k1, k1]
      simp only [beq_self_eq_true, cond_true]
      rw [pname_f S hs, Option.bind_some]
      exact ⟨_, _, rfl, wok_if⟩
    rw [if_neg k1, show (kind == 1) = false from beq_eq_false_iff_ne.2 k1, cond_false]
    by_cases k2 : kind = 2
    · rw [if_pos k2, k2]
      simp only [beq_self_eq_true, cond_true]
      rw [number_f, Option.bind_some, numR_L, toList_data, toList_data]
      refine ⟨_, _, rfl, ?_⟩
      by_cases hE : S.data.toList = []
      · rw [if_pos hE, hE]
        cases numL N with
        | none => rfl
        | some b => exact ⟨rfl, rfl⟩
      · rw [if_neg hE, show (S.data.toList == strNil.data.toList) = false from beq_eq_false_iff_ne.2 hE, Bool.and_false]
        rfl
    rw [if_neg k2, show (kind == 2) = false from beq_eq_false_iff_ne.2 k2, cond_false]
    by_cases k3 : kind = 3
    · rw [if_pos k3, k3]
      simp only [beq_self_eq_true, cond_true]
      rw [quote_f S hs, Option.bind_some]
      exact ⟨_, _, rfl, quoteR_w S⟩
    rw [if_neg k3, show (kind == 3) = false from beq_eq_false_iff_ne.2 k3, cond_false]
    by_cases k4 : kind = 4
    · rw [if_pos k4, k4]
      simp only [beq_self_eq_true, cond_true]
      rw [gd_pos (decide_eq_true (by unfold maxS; omega)), keys_get]
      exact ⟨_, _, rfl, wok_if⟩
    rw [if_neg k4, show (kind == 4) = false from beq_eq_false_iff_ne.2 k4, cond_false]
    by_cases k5 : kind = 5
    · rw [if_pos k5, k5]
      simp only [beq_self_eq_true, cond_true]
      rw [psigns_f, Option.bind_some, List.length_map]
      have h := sign_wl keyM d signsU (by decide) (fun y5 => some (strNil, false, y5)) signsU.length 0 NN (by omega) (Nat.lt_of_lt_of_le (show signsU.length < 1000 by decide) (by omega)) (by omega)
      have h' : Glex_written.l241658 NN keyM d (signsU.map toD) (signsU.length : Int) 0 _ = _ := h
      rw [h', hS, List.drop_zero]
      cases hc : signsU.contains S.data.toList with
      | true => exact ⟨_, _, rfl, rfl, str_eq S⟩
      | false => exact ⟨_, _, rfl, rfl⟩
    rw [if_neg k5, show (kind == 5) = false from beq_eq_false_iff_ne.2 k5, cond_false]
    exact ⟨_, _, rfl, rfl⟩
theorem wok_n {x : Option (List UInt8)} {w : ByteArray} {ok : Bool} {N : Int} (h : WOk x w ok) (hN : N = 0) : WOk x w (ok && (N == 0)) := by
  rw [hN, show ((0 : Int) == 0) = true from rfl, Bool.and_true]; exact h
theorem rwritten_f (d : D) (hs : ((d.cell 1).str).size ≤ 1048576) : ∃ w ok, Gr02_written.f d = some (w, ok) ∧ WOk (writL ((d.cell 0).int) ((d.cell 1).str).data.toList ((d.cell 2).int)) w ok := by
  unfold Gr02_written.f writL
  generalize hk : (d.cell 0).int = kind
  generalize hn : (d.cell 2).int = N
  generalize hS : (d.cell 1).str = S at hs ⊢
  by_cases h1 : kind ≠ 2 ∧ N ≠ 0
  · rw [if_pos h1]
    have hz : (N == 0) = false := beq_eq_false_iff_ne.2 h1.2
    rw [hz, show (kind == 2) = false from beq_eq_false_iff_ne.2 h1.1]
    simp only [Bool.and_false, cond_false]
    rw [rname_f S hs, rkeys, rsigns, rquote_f S hs]
    simp only [Option.bind_some]
    rw [keys_has, signs_has]
    simp only [Option.bind_some]
    cases (kind == 1) <;> cases (kind == 4) <;> cases (kind == 5) <;> cases (kind == 3) <;> exact ⟨_, _, rfl, rfl⟩
  · rw [if_neg h1]
    have hz : kind ≠ 2 → N = 0 := fun h => Classical.byContradiction fun h' => h1 ⟨h, h'⟩
    by_cases k1 : kind = 1
    · rw [if_pos k1, k1]
      simp only [beq_self_eq_true, cond_true]
      rw [rname_f S hs, Option.bind_some]
      exact ⟨_, _, rfl, wok_n wok_if (hz (by omega))⟩
    rw [if_neg k1, show (kind == 1) = false from beq_eq_false_iff_ne.2 k1, cond_false]
    by_cases k4 : kind = 4
    · rw [if_neg (show ¬ kind = 2 by omega), if_neg (show ¬ kind = 3 by omega), if_pos k4, k4]
      simp only [beq_self_eq_true, cond_true]
      rw [rkeys, Option.bind_some, keys_has, Option.bind_some]
      exact ⟨_, _, rfl, wok_n wok_if (hz (by omega))⟩
    rw [show (kind == 4) = false from beq_eq_false_iff_ne.2 k4, cond_false]
    by_cases k5 : kind = 5
    · rw [if_neg (show ¬ kind = 2 by omega), if_neg (show ¬ kind = 3 by omega), if_neg k4, if_pos k5, k5]
      simp only [beq_self_eq_true, cond_true]
      rw [rsigns, Option.bind_some, signs_has, Option.bind_some]
      exact ⟨_, _, rfl, wok_n wok_if (hz (by omega))⟩
    rw [show (kind == 5) = false from beq_eq_false_iff_ne.2 k5, cond_false]
    by_cases k2 : kind = 2
    · rw [if_pos k2, k2]
      simp only [beq_self_eq_true, cond_true]
      rw [rnumber_f, Option.bind_some, numR_L, toList_data, toList_data]
      refine ⟨_, _, rfl, ?_⟩
      by_cases hE : S.data.toList = []
      · rw [if_pos hE, hE]
        cases numL N with
        | none => rfl
        | some b => exact ⟨rfl, rfl⟩
      · rw [if_neg hE, show (S.data.toList == strNil.data.toList) = false from beq_eq_false_iff_ne.2 hE, Bool.and_false]
        rfl
    rw [if_neg k2, show (kind == 2) = false from beq_eq_false_iff_ne.2 k2, cond_false]
    by_cases k3 : kind = 3
    · rw [if_pos k3, k3]
      simp only [beq_self_eq_true, cond_true]
      rw [rquote_f S hs, Option.bind_some]
      exact ⟨_, _, rfl, wok_n (quoteR_w S) (hz (by omega))⟩
    rw [if_neg k3, show (kind == 3) = false from beq_eq_false_iff_ne.2 k3, cond_false, if_neg k4, if_neg k5]
    exact ⟨_, _, rfl, rfl⟩
end Go.Pv

namespace Go.Pv
open Go.Lx
open Go.Proofs.YtjlnbhdmbfofdaaDoor.Lx (quoteL quoteR qByte)
set_option maxRecDepth 20000
def wrL (d : D) : Option (List UInt8) := writL ((d.cell 0).int) ((d.cell 1).str).data.toList ((d.cell 2).int)
/-- What is written of the tokens up to the end, one by one; none: a token that is never made. -/
def textsL : List D → Option (List (List UInt8))
  | [] => some []
  | d :: r => if (d.cell 0).int = 0 then (if (d.cell 2).int ≠ 0 ∨ ((d.cell 1).str).data.toList ≠ [] then none else some []) else match wrL d with | none => none | some w => (textsL r).map (w :: ·)
theorem writL_len {k : Int} {S : List UInt8} {N : Int} {w : List UInt8} (h : writL k S N = some w) : w ≠ [] ∧ w.length ≤ 250 := by
  have hkey : ∀ l ∈ keysU, l ≠ [] ∧ l.length ≤ 250 := by decide
  have hsig : ∀ l ∈ signsU, l ≠ [] ∧ l.length ≤ 250 := by decide
  unfold writL at h
  split at h
  · cases h
  split at h
  · split at h
    · rename_i hn
      obtain rfl := Option.some.inj h
      unfold nameU at hn
      simp only [Bool.and_eq_true, Bool.not_eq_true', beq_eq_false_iff_ne, decide_eq_true_eq] at hn
      exact ⟨hn.1, by omega⟩
    · cases h
  split at h
  · split at h
    · obtain ⟨h1, h2⟩ := tok_num N w [] h (.inl rfl)
      obtain ⟨h3, -⟩ := num_one N w h
      exact ⟨h3, by omega⟩
    · cases h
  split at h
  · split at h
    · rename_i hl
      obtain ⟨b, hb, rfl⟩ := Option.map_eq_some_iff.1 h
      have := Go.Proofs.YtjlnbhdmbfofdaaDoor.Lx.quoteL_len _ _ hb
      refine ⟨by simp, ?_⟩
      simp only [List.length_append, List.length_cons, List.length_nil]; omega
    · cases h
  split at h
  · split at h
    · rename_i hc
      obtain rfl := Option.some.inj h
      exact hkey _ (List.contains_iff_mem.1 hc)
    · cases h
  split at h
  · split at h
    · rename_i hc
      obtain rfl := Option.some.inj h
      exact hsig _ (List.contains_iff_mem.1 hc)
    · cases h
  · cases h
theorem textsL_len : ∀ (l : List D) (ws : List (List UInt8)), textsL l = some ws → ws.length ≤ l.length ∧ ∀ w ∈ ws, w ≠ [] ∧ w.length ≤ 250
  | [], ws, h => by
    obtain rfl : [] = ws := by simpa [textsL] using h
    exact ⟨by simp, fun w hw => by cases hw⟩
  | d :: r, ws, h => by
    unfold textsL at h
    split at h
    · split at h
      · cases h
      · obtain rfl := Option.some.inj h
        exact ⟨by simp, fun w hw => by cases hw⟩
    · split at h
      · cases h
      · rename_i w hw
        obtain ⟨ws', h1, rfl⟩ := Option.map_eq_some_iff.1 h
        obtain ⟨i1, i2⟩ := textsL_len r ws' h1
        refine ⟨by simp only [List.length_cons]; omega, fun x hx => ?_⟩
        rcases List.mem_cons.1 hx with rfl | hx
        · exact writL_len hw
        · exact i2 x hx
/-- Texts with blanks between them. -/
def joinU (ws : List (List UInt8)) : List UInt8 := Lib.join ws [32]
theorem joinU_cons (x : List UInt8) (r : List (List UInt8)) : joinU (x :: r) = x ++ (r.map fun w => 32 :: w).flatten := by
  unfold joinU
  rw [Lib.join_cons]
  rfl
theorem joinU_snoc (ws : List (List UInt8)) (w : List UInt8) (h : ws ≠ []) : joinU (ws ++ [w]) = joinU ws ++ 32 :: w := by
  cases ws with
  | nil => exact absurd rfl h
  | cons x r =>
    rw [List.cons_append, joinU_cons, joinU_cons, List.map_append, List.flatten_append]
    simp
theorem joinU_len (ws : List (List UInt8)) (h : ∀ w ∈ ws, w.length ≤ 250) : (joinU ws).length ≤ 251 * ws.length := by
  cases ws with
  | nil => simp [joinU, Lib.join_nil]
  | cons x r =>
    rw [joinU_cons, List.length_append]
    have hr : ∀ (r : List (List UInt8)), (∀ w ∈ r, w.length ≤ 250) → ((r.map fun w => 32 :: w).flatten).length ≤ 251 * r.length := by
      intro r
      induction r with
      | nil => intro _; simp
      | cons y r ih =>
        intro h
        have h1 := h y (List.mem_cons_self ..)
        have h2 := ih fun w hw => h w (List.mem_cons_of_mem _ hw)
        simp only [List.map_cons, List.flatten_cons, List.length_append, List.length_cons]
        omega
    have h1 := h x (List.mem_cons_self ..)
    have h2 := hr r fun w hw => h w (List.mem_cons_of_mem _ hw)
    simp only [List.length_cons]; omega
theorem drop_rd (l : List D) (i : Nat) (h : i < l.length) : l.drop i = rd l i :: l.drop (i + 1) := by
  rw [List.drop_eq_getElem_cons h, rd_at l i h]
theorem ptext_l (a : List D) (hn : a.length ≤ 20000) (ha : ∀ d ∈ a, ((d.cell 1).str).size ≤ 1048576) (κ : List D → Option (ByteArray × Int)) : ∀ (n i k : Nat) (acc : List D), a.length - i ≤ n → n < k → i ≤ a.length → acc.length ≤ i →
    Glex_Text.l122 k acc keyM a (a.length : Int) (i : Int) κ = match textsL (a.drop i) with | none => some (strNil, 3) | some ws => κ (acc ++ ws.map toD) := by
  intro n
  induction n with
  | zero =>
    intro i k acc h1 h2 h3 h4
    obtain ⟨k, rfl⟩ : ∃ k', k = k' + 1 := ⟨k - 1, by omega⟩
    simp only [Glex_Text.l122]
    rw [decide_eq_false (show ¬ (i : Int) < (a.length : Int) by omega), cond_false, List.drop_eq_nil_of_le (by omega)]
    simp [textsL]
  | succ n ih =>
    intro i k acc h1 h2 h3 h4
    obtain ⟨k, rfl⟩ : ∃ k', k = k' + 1 := ⟨k - 1, by omega⟩
    simp only [Glex_Text.l122]
    by_cases hi : i < a.length
    · rw [decide_eq_true (show (i : Int) < (a.length : Int) by omega), cond_true, gd_pos (inB_pos ⟨by omega, by omega⟩), toNat_nat, drop_rd a i hi, w_succ i (by omega)]
      have hmem : rd a i ∈ a := by rw [rd_at a i hi]; exact List.getElem_mem hi
      have hsz := ha _ hmem
      generalize rd a i = d at hsz
      simp only [textsL]
      by_cases h0 : (d.cell 0).int = 0
      · rw [if_pos h0, show ((d.cell 0).int == 0) = true by rw [h0]; rfl, cond_true, toList_data, show strNil.toList = [] by rw [toList_data]; rfl]
        by_cases hb : (d.cell 2).int ≠ 0 ∨ ((d.cell 1).str).data.toList ≠ []
        · rw [if_pos hb, show (((d.cell 2).int != 0) || !(((d.cell 1).str).data.toList == [])) = true by simpa using hb]
          rfl
        · rw [if_neg hb, show (((d.cell 2).int != 0) || !(((d.cell 1).str).data.toList == [])) = false by rw [Bool.eq_false_iff]; simpa using hb]
          simp
      · rw [if_neg h0, show ((d.cell 0).int == 0) = false from beq_eq_false_iff_ne.2 h0, cond_false]
        obtain ⟨w, ok, e1, e2⟩ := written_f d hsz
        rw [e1, Option.bind_some]
        have e2 : WOk (wrL d) w ok := e2
        cases hw : wrL d with
        | none =>
          rw [hw] at e2
          have e2 : ok = false := e2
          rw [e2]; rfl
        | some x =>
          rw [hw] at e2
          obtain ⟨rfl, rfl⟩ : ok = true ∧ w = ⟨x.toArray⟩ := e2
          simp only [Bool.not_true, cond_false]
          rw [gd_pos (lim_pos (by simp only [List.length_cons, List.length_nil]; omega)), ih (i + 1) k _ (by omega) (by omega) (by omega) (by simp only [List.length_append, List.length_cons, List.length_nil]; omega)]
          cases textsL (a.drop (i + 1)) with
          | none => rfl
          | some ws => simp
    · rw [decide_eq_false (show ¬ (i : Int) < (a.length : Int) by omega), cond_false, List.drop_eq_nil_of_le (by omega)]
      simp [textsL]
def textR (a : List D) : ByteArray × Int := match textsL a with | none => (strNil, 3) | some ws => (⟨(joinU ws).toArray⟩, 0)
theorem text_f (a : List D) (hn : a.length ≤ 20000) (ha : ∀ d ∈ a, ((d.cell 1).str).size ≤ 1048576) : Glex_Text.f a = some (textR a) := by
  unfold Glex_Text.f textR
  have hN := le_NN
  rw [keys_f, Option.bind_some]
  have h := ptext_l a hn ha (fun y3 => (Gstrings_Join.f y3 str20).bind fun r4 => some (r4, 0)) a.length 0 NN [] (by omega) (by omega) (by omega) (by simp)
  have h' : Glex_Text.l122 NN [] keyM a (a.length : Int) 0 _ = _ := h
  rw [h', List.drop_zero]
  cases ht : textsL a with
  | none => rfl
  | some ws =>
    obtain ⟨h1, h2⟩ := textsL_len a ws ht
    simp only [List.nil_append]
    have hj : joinB (ws.map toD) str20 = joinU ws := by
      unfold joinB joinU
      rw [List.map_map]
      have : ((fun x : D => x.str.data.toList) ∘ toD) = id := by
        funext l
        show l.toArray.toList = l
        simp
      rw [this, List.map_id]
      rfl
    have hl := joinU_len ws fun w hw => (h2 w hw).2
    unfold Gstrings_Join.f
    rw [hj, List.length_map, show (Nat.ble ws.length 1000000000 && Nat.ble (joinU ws).length 140737488355328) = true by
      rw [Nat.ble_eq_true_of_le (show ws.length ≤ 1000000000 by omega), Nat.ble_eq_true_of_le (show (joinU ws).length ≤ 140737488355328 by omega)]; rfl, cond_true]
    rfl
theorem rtexts_l (a : List D) (hn : a.length ≤ 20000) (ha : ∀ d ∈ a, ((d.cell 1).str).size ≤ 1048576) (κ : ByteArray → Option (ByteArray × Int)) : ∀ (n i k : Nat) (acc : List (List UInt8)), a.length - i ≤ n → n < k → i ≤ a.length → acc.length = i → (∀ w ∈ acc, w.length ≤ 250) →
    Gr02_Text.l58 k a ⟨(joinU acc).toArray⟩ (i : Int) κ = match textsL (a.drop i) with | none => some (strNil, 3) | some ws => κ ⟨(joinU (acc ++ ws)).toArray⟩ := by
  intro n
  induction n with
  | zero =>
    intro i k acc h1 h2 h3 h4 h5
    obtain ⟨k, rfl⟩ : ∃ k', k = k' + 1 := ⟨k - 1, by omega⟩
    simp only [Gr02_Text.l58]
    rw [decide_eq_false (show ¬ (i : Int) < (a.length : Int) by omega), cond_false, List.drop_eq_nil_of_le (by omega)]
    simp [textsL]
  | succ n ih =>
    intro i k acc h1 h2 h3 h4 h5
    obtain ⟨k, rfl⟩ : ∃ k', k = k' + 1 := ⟨k - 1, by omega⟩
    simp only [Gr02_Text.l58]
    by_cases hi : i < a.length
    · have hin := inB_pos (i := (i : Int)) (n := a.length) ⟨by omega, by omega⟩
      rw [decide_eq_true (show (i : Int) < (a.length : Int) by omega), cond_true, gd_pos hin, gd_pos hin, toNat_nat, drop_rd a i hi, hin, Bool.or_true, gd_pos rfl, gd_pos rfl]
      have hmem : rd a i ∈ a := by rw [rd_at a i hi]; exact List.getElem_mem hi
      have hsz := ha _ hmem
      generalize rd a i = d at hsz
      simp only [textsL]
      by_cases h0 : (d.cell 0).int = 0
      · rw [if_pos h0, show ((d.cell 0).int == 0) = true by rw [h0]; rfl, cond_true, toList_data, show strNil.toList = [] by rw [toList_data]; rfl]
        by_cases hb : (d.cell 2).int ≠ 0 ∨ ((d.cell 1).str).data.toList ≠ []
        · rw [if_pos hb, show ((!(((d.cell 1).str).data.toList == [])) || ((d.cell 2).int != 0)) = true by
            rw [Bool.or_comm]; simpa using hb]
          rfl
        · rw [if_neg hb, show ((!(((d.cell 1).str).data.toList == [])) || ((d.cell 2).int != 0)) = false by
            rw [Bool.or_comm, Bool.eq_false_iff]; simpa using hb]
          simp
      · rw [if_neg h0, show ((d.cell 0).int == 0) = false from beq_eq_false_iff_ne.2 h0, cond_false]
        obtain ⟨w, ok, e1, e2⟩ := rwritten_f d hsz
        rw [e1, Option.bind_some]
        have e2 : WOk (wrL d) w ok := e2
        cases hw : wrL d with
        | none =>
          rw [hw] at e2
          have e2 : ok = false := e2
          rw [e2]; rfl
        | some x =>
          rw [hw] at e2
          obtain ⟨rfl, rfl⟩ : ok = true ∧ w = ⟨x.toArray⟩ := e2
          obtain ⟨hx0, hx⟩ := writL_len (show writL _ _ _ = some x from hw)
          have hjl := joinU_len acc h5
          simp only [Bool.not_true, cond_false]
          have step : ∀ v : ByteArray, v = ⟨(joinU (acc ++ [x])).toArray⟩ → Gr02_Text.l58 k a v (IntKind.i64.wrap ((i : Int) + 1)) κ = match (match textsL (a.drop (i + 1)) with | none => none | some ws => some (x :: ws)) with | none => some (strNil, 3) | some ws => κ ⟨(joinU (acc ++ ws)).toArray⟩ := fun v hv => by
            rw [hv, w_succ i (by omega), ih (i + 1) k (acc ++ [x]) (by omega) (by omega) (by omega) (by simp [h4]) (fun w hw => by
              rcases List.mem_append.1 hw with hw | hw
              · exact h5 w hw
              · obtain rfl := List.mem_singleton.1 hw; exact hx)]
            cases textsL (a.drop (i + 1)) with
            | none => rfl
            | some ws => simp
          have hmap : ((textsL (a.drop (i + 1))).map fun ws => x :: ws) = (match textsL (a.drop (i + 1)) with | none => none | some ws => some (x :: ws)) := by
            cases textsL (a.drop (i + 1)) <;> rfl
          rw [hmap]
          by_cases hz : i = 0
          · subst hz
            obtain rfl : acc = [] := List.eq_nil_of_length_eq_zero h4
            rw [decide_eq_false (show ¬ ((0 : Nat) : Int) > 0 by omega), cond_false]
            unfold Gr02_Text.p14927
            rw [gd_pos (decide_eq_true (by rw [toD_size, toD_size]; unfold maxS; omega)), app_arr]
            exact step _ (by simp [joinU, Lib.join_nil, Lib.join_one])
          · have hne : acc ≠ [] := fun h => hz (by rw [← h4, h]; rfl)
            rw [decide_eq_true (show ((i : Nat) : Int) > 0 by omega), cond_true]
            unfold Gr02_Text.p14927
            have e20 : (⟨(joinU acc).toArray⟩ : ByteArray) ++ str20 = ⟨(joinU acc ++ [32]).toArray⟩ := by
              rw [show str20 = ⟨([32] : List UInt8).toArray⟩ from rfl, app_arr]
            rw [gd_pos (decide_eq_true (by rw [toD_size, show str20.size = 1 from rfl]; unfold maxS; omega)), e20]
            rw [gd_pos (decide_eq_true (by rw [toD_size, toD_size, List.length_append]; unfold maxS; simp only [List.length_cons, List.length_nil]; omega)), app_arr]
            exact step _ (by rw [joinU_snoc acc x hne]; simp)
    · rw [decide_eq_false (show ¬ (i : Int) < (a.length : Int) by omega), cond_false, List.drop_eq_nil_of_le (by omega)]
      simp [textsL]
theorem rtexts_f (a : List D) (hn : a.length ≤ 20000) (ha : ∀ d ∈ a, ((d.cell 1).str).size ≤ 1048576) : Gr02_Text.f a = some (textR a) := by
  unfold Gr02_Text.f textR
  have hN := le_NN
  have h := rtexts_l a hn ha (fun y4 => some (y4, 0)) a.length 0 NN [] (by omega) (by omega) (by omega) rfl (fun w hw => by cases hw)
  have h' : Gr02_Text.l58 NN a strNil 0 _ = _ := h
  rw [h', List.drop_zero]
  cases textsL a with
  | none => rfl
  | some ws => rfl
theorem law_texts (a : List D) (ha : ∀ d ∈ a, ((d.cell 1).str).size ≤ 1048576) : Gw02_LexTexts.f a = some true := by
  unfold Gw02_LexTexts.f
  by_cases hn : a.length > 20000
  · rw [decide_eq_true (show (a.length : Int) > 20000 by omega), cond_true, awake_f]
    rfl
  · rw [decide_eq_false (show ¬ (a.length : Int) > 20000 by omega), cond_false, text_f a (by omega) ha, Option.bind_some, rtexts_f a (by omega) ha, Option.bind_some]
    simp only [beq_self_eq_true, Bool.and_true, cond_true]
    rw [awake_f]
    rfl
end Go.Pv

namespace Go.Pv
open Go.Proofs
set_option maxRecDepth 20000
theorem tok_small {a : List D} (h : ∀ x ∈ a, (isA Tryd.prog 33 = true → ∃ ds, x = .r ds ∧ ds.length = csz Tryd.prog 33) ∧ WfM Tryd.prog 1048576 2 33 fun j => x.ecell (isA Tryd.prog 33) j) : ∀ d ∈ a, ((d.cell 1).str).size ≤ 1048576 := by
  intro d hd
  have hA : isA Tryd.prog 33 = true := by kernel_rfl
  have hw := (h d hd).2
  rw [hA] at hw
  obtain ⟨s, s1, s2⟩ := wf_str (wf_struct hw Tryd.underlying33 (i := 1) rfl) Tryd.underlying9
  have s1 : d.cell 1 = .s s := s1
  rw [s1]
  exact s2
end Go.Pv

namespace Go.Pv
open Go.Lx
open Go.Proofs.YtjlnbhdmbfofdaaDoor.Lx (quoteL quoteR qByte)
set_option maxRecDepth 20000
/-- A token that is written so is scanned so, whatever comes behind a blank. -/
def Reads (t : Tk) (w : List UInt8) : Prop := w ≠ [] ∧ ∀ r, Ends r → tokL (w ++ r) = .ok (t, w.length) ∧ skipA false (w ++ r) = w ++ r
theorem skip_first (c : UInt8) (r : List UInt8) (h1 : blU c = false) (h2 : c.toNat = 47 → slashed r = false) : skipA false (c :: r) = c :: r := by
  rw [skipA_f, h1]
  by_cases h : c.toNat = 47
  · rw [h2 h, Bool.and_false]; rfl
  · rw [show (c.toNat == 47) = false from beq_eq_false_iff_ne.2 h]; rfl
theorem sm_facts (c : UInt8) (h : smU c = true) : blU c = false ∧ c.toNat ≠ 47 := by
  unfold smU at h
  simp only [Bool.and_eq_true, decide_eq_true_eq] at h
  refine ⟨?_, by omega⟩
  unfold blU
  rw [show (c.toNat == 32) = false from beq_eq_false_iff_ne.2 (by omega), show (c.toNat == 9) = false from beq_eq_false_iff_ne.2 (by omega), show (c.toNat == 10) = false from beq_eq_false_iff_ne.2 (by omega)]
  rfl
theorem reads_word (S : List UInt8) (c : UInt8) (x : List UInt8) (hS : S = c :: x) (hc : smU c = true) (hw : ∀ d ∈ S, wdU d = true) (hl : S.length ≤ 24) : Reads ⟨if keysU.contains S then 4 else 1, S, 0⟩ S := by
  subst hS
  refine ⟨by simp, fun r hr => ?_⟩
  have h := tw_app wdU (by decide) (c :: x) r hw hr
  rw [List.cons_append] at h ⊢
  obtain ⟨h1, h2⟩ := sm_facts c hc
  refine ⟨?_, skip_first c _ h1 fun e => absurd e h2⟩
  rw [tokL_small hc, h, if_neg (by omega)]
theorem sign_ends (g r : List UInt8) (hg : g ∈ signsU) (hr : Ends r) : signL (g ++ r) = g := by
  have hno : ∀ g ∈ signsU, (32 : UInt8) ∉ g := by decide
  obtain ⟨g1, g2⟩ := signs_len g hg
  have hp : g.isPrefixOf (g ++ r) = true := List.isPrefixOf_iff_prefix.2 (List.prefix_append g r)
  have hm := sign_max (g ++ r) g hg hp
  rcases sign_ok (g ++ r) with h0 | ⟨a, b⟩
  · rw [h0] at hm; simp only [List.length_nil] at hm; omega
  · have hl := (signs_len _ a).2
    have hb := prefix_take b
    by_cases he : (signL (g ++ r)).length = g.length
    · rw [he] at hb
      rw [hb]; simp
    · exfalso
      have e1 : g.length = 1 := by omega
      have e2 : (signL (g ++ r)).length = 2 := by omega
      rw [e2] at hb
      rcases hr with rfl | ⟨x, rfl⟩
      · rw [List.append_nil] at hb e2
        have : (g.take 2).length = 2 := by rw [← hb]; exact e2
        rw [List.length_take] at this; omega
      · have : (32 : UInt8) ∈ signL (g ++ 32 :: x) := by
          rw [hb]
          obtain ⟨y, rfl⟩ := List.length_eq_one_iff.1 e1
          simp
        exact hno _ a this
theorem reads_sign (g : List UInt8) (hg : g ∈ signsU) : Reads ⟨5, g, 0⟩ g := by
  have key : ∀ g ∈ signsU, (g.head?.map fun c => !smU c && (!dgU c && (c.toNat != 35 && (c.toNat != 39 && (c.toNat != 34 && !blU c))))) = some true ∧ ((g.head?.map fun c => c.toNat) = some 47 → g.length = 1) := by decide
  have hk := key g hg
  cases g with
  | nil => cases hk.1
  | cons c x =>
    obtain ⟨hk1, hk2⟩ := hk
    have hk1 := Option.some.inj hk1
    simp only [Bool.and_eq_true, Bool.not_eq_true', bne_iff_ne, ne_eq] at hk1
    obtain ⟨k1, k2, k3, k4, k5, k6⟩ := hk1
    have k7 : c.toNat = 47 → x = [] := fun h => by
      have := hk2 (by show some c.toNat = _; rw [h])
      exact List.eq_nil_of_length_eq_zero (by simpa using this)
    refine ⟨by simp, fun r hr => ?_⟩
    have hs := sign_ends (c :: x) r hg hr
    rw [List.cons_append] at hs ⊢
    refine ⟨?_, skip_first c _ k6 fun e => ?_⟩
    · rw [tokL_sign k1 k2 k3 k4 k5 (c :: x) hs, if_neg (by simp)]
    · rw [k7 e, List.nil_append]
      rcases hr with rfl | ⟨y, rfl⟩ <;> rfl
theorem reads_num (n : Int) (w : List UInt8) (h : numL n = some w) : Reads ⟨2, [], n⟩ w := by
  obtain ⟨h1, h2, h3, h4⟩ := num_one n w h
  refine ⟨h1, fun r hr => ⟨(tok_num n w r h hr).1, ?_⟩⟩
  cases w with
  | nil => exact absurd rfl h1
  | cons c x =>
    rw [List.cons_append]
    have hc : blU c = false ∧ ¬ c.toNat = 47 := by
      unfold numL at h
      split at h
      · cases h
      · split at h
        · have : (35 : UInt8) = c := (List.cons.inj (Option.some.inj h)).1
          rw [← this]; decide
        · have hx := Option.some.inj h
          obtain ⟨-, k2, -⟩ := numF_facts 10 (by omega) n.toNat
          have hd := (k2 c (by rw [hx]; exact List.mem_cons_self ..)).2 (by omega)
          unfold dgU at hd
          simp only [Bool.and_eq_true, decide_eq_true_eq] at hd
          refine ⟨?_, by omega⟩
          unfold blU
          rw [show (c.toNat == 32) = false from beq_eq_false_iff_ne.2 (by omega), show (c.toNat == 9) = false from beq_eq_false_iff_ne.2 (by omega), show (c.toNat == 10) = false from beq_eq_false_iff_ne.2 (by omega)]
          rfl
    exact skip_first c _ hc.1 fun e => absurd e hc.2
theorem reads_string (S b : List UInt8) (h : quoteL S = some b) (hl : S.length ≤ 100) : Reads ⟨3, S, 0⟩ (34 :: b ++ [34]) := by
  refine ⟨by simp, fun r _ => ?_⟩
  have e : (34 :: b ++ [34]) ++ r = 34 :: b ++ 34 :: r := by simp
  rw [e]
  refine ⟨?_, ?_⟩
  · rw [tok_string S b r h hl]; simp
  · rw [List.cons_append]; exact skip_first 34 _ (by decide) (fun e => absurd e (by decide))
theorem reads_written {k : Int} {S : List UInt8} {N : Int} {w : List UInt8} (h : writL k S N = some w) : Reads ⟨k, S, N⟩ w := by
  have hkey : ∀ l ∈ keysU, l.head?.map smU = some true ∧ (∀ d ∈ l, wdU d = true) ∧ l.length ≤ 24 := by decide
  unfold writL at h
  split at h
  · cases h
  rename_i h1
  split at h
  · rename_i hk
    have hN : N = 0 := Classical.byContradiction fun hN => h1 ⟨by omega, hN⟩
    split at h
    · rename_i hn
      obtain rfl := Option.some.inj h
      unfold nameU at hn
      simp only [Bool.and_eq_true, Bool.not_eq_true', beq_eq_false_iff_ne, decide_eq_true_eq, List.all_eq_true] at hn
      obtain ⟨n0, n1, n2, n3, n4⟩ := hn
      cases S with
      | nil => exact absurd rfl n0
      | cons c x =>
        have := reads_word (c :: x) c x rfl n2 n3 n1
        rw [n4, if_neg Bool.false_ne_true] at this
        rw [hk, hN]; exact this
    · cases h
  split at h
  · rename_i hk
    split at h
    · rename_i hS
      rw [hS, hk]; exact reads_num N w h
    · cases h
  rename_i hk2
  have hN : N = 0 := Classical.byContradiction fun hN => h1 ⟨hk2, hN⟩
  split at h
  · rename_i hk
    split at h
    · rename_i hl
      obtain ⟨b, hb, rfl⟩ := Option.map_eq_some_iff.1 h
      rw [hk, hN]; exact reads_string S b hb hl
    · cases h
  split at h
  · rename_i hk
    split at h
    · rename_i hc
      obtain rfl := Option.some.inj h
      have hm := List.contains_iff_mem.1 hc
      obtain ⟨q1, q2, q3⟩ := hkey S hm
      cases S with
      | nil => cases q1
      | cons c x =>
        have := reads_word (c :: x) c x rfl (Option.some.inj q1) q2 q3
        rw [hc, if_pos rfl] at this
        rw [hk, hN]; exact this
    · cases h
  split at h
  · rename_i hk
    split at h
    · rename_i hc
      obtain rfl := Option.some.inj h
      rw [hk, hN]; exact reads_sign S (List.contains_iff_mem.1 hc)
    · cases h
  · cases h
/-! ### All of them -/
theorem raw_blank (k : Nat) (l : List UInt8) (E : Nat) : rawF k (32 :: l) E = rawF k l E := by
  have hs : skipA false (32 :: l) = skipA false l := by rw [skipA_f]; rfl
  cases k with
  | zero => rfl
  | succ k => simp only [rawF, hs]
theorem join_tail (x : List UInt8) (r : List (List UInt8)) : ((x :: r).map fun w => 32 :: w).flatten = 32 :: joinU (x :: r) := by
  rw [joinU_cons]; simp
theorem raw_join : ∀ (L : List (Tk × List UInt8)), (∀ p ∈ L, Reads p.1 p.2) → ∀ (k E : Nat), (joinU (L.map (·.2))).length < k → (rawF k (joinU (L.map (·.2))) E).err = none ∧ (rawF k (joinU (L.map (·.2))) E).toks.map (·.1) = L.map (·.1)
  | [], _, k, E, _ => by
    have : rawF k (joinU []) E = ⟨[], none, E⟩ := raw_nil (by simp [joinU, Lib.join_nil, skipA])
    show (rawF k (joinU []) E).err = none ∧ (rawF k (joinU []) E).toks.map (·.1) = []
    rw [this]; exact ⟨rfl, rfl⟩
  | (t, w) :: L, hR, k, E, hk => by
    obtain ⟨hw0, hw⟩ := hR (t, w) (List.mem_cons_self ..)
    obtain ⟨k, rfl⟩ : ∃ k', k = k' + 1 := ⟨k - 1, by omega⟩
    rw [List.map_cons, joinU_cons] at hk ⊢
    -- what comes behind
    obtain ⟨r, hr, hE, hrk⟩ : ∃ r, ((L.map (·.2)).map fun w => 32 :: w).flatten = r ∧ Ends r ∧ ((rawF k r E).err = none ∧ (rawF k r E).toks.map (·.1) = L.map (·.1)) := by
      refine ⟨_, rfl, ?_⟩
      cases L with
      | nil =>
        refine ⟨.inl rfl, ?_⟩
        have : rawF k [] E = ⟨[], none, E⟩ := raw_nil (by simp [skipA])
        show (rawF k [] E).err = none ∧ (rawF k [] E).toks.map (·.1) = []
        rw [this]; exact ⟨rfl, rfl⟩
      | cons p L =>
        have hj := join_tail p.2 (L.map (·.2))
        rw [List.map_cons] at hk ⊢
        rw [hj] at hk ⊢
        refine ⟨.inr ⟨_, rfl⟩, ?_⟩
        rw [raw_blank]
        have hwl : 1 ≤ w.length := by
          cases w with
          | nil => exact absurd rfl hw0
          | cons c x => simp
        simp only [List.length_append, List.length_cons] at hk
        exact raw_join (p :: L) (fun q hq => hR q (List.mem_cons_of_mem _ hq)) k E (by rw [List.map_cons]; omega)
    rw [hr]
    obtain ⟨h1, h2⟩ := hw r hE
    obtain ⟨c, x, rfl⟩ : ∃ c x, w = c :: x := by
      cases w with
      | nil => exact absurd rfl hw0
      | cons c x => exact ⟨c, x, rfl⟩
    rw [List.cons_append] at h1 h2 ⊢
    rw [raw_ok h2 h1]
    have hd : List.drop (c :: x).length (c :: (x ++ r)) = r := by
      rw [← List.cons_append]; simp
    rw [hd]
    exact ⟨hrk.1, by rw [List.map_cons, hrk.2, List.map_cons]⟩
def tkOf (d : D) : Tk := ⟨(d.cell 0).int, ((d.cell 1).str).data.toList, (d.cell 2).int⟩
/-- Up to the end all tokens are written. -/
theorem texts_split : ∀ (a : List D) (ws : List (List UInt8)), textsL a = some ws → (∀ i, i < ws.length → i < a.length ∧ ((rd a i).cell 0).int ≠ 0) ∧ ws.length ≤ a.length ∧ (ws.length < a.length → ((rd a ws.length).cell 0).int = 0) ∧ ∃ L : List (Tk × List UInt8), L.map (·.2) = ws ∧ L.map (·.1) = (a.take ws.length).map tkOf ∧ ∀ p ∈ L, Reads p.1 p.2
  | [], ws, h => by
    obtain rfl : [] = ws := by simpa [textsL] using h
    exact ⟨fun i hi => by simp at hi, by simp, fun h => by simp at h, [], rfl, rfl, fun p hp => by cases hp⟩
  | d :: a, ws, h => by
    unfold textsL at h
    split at h
    · rename_i h0
      split at h
      · cases h
      · obtain rfl := Option.some.inj h
        exact ⟨fun i hi => by simp at hi, by simp, fun _ => h0, [], rfl, by simp, fun p hp => by cases hp⟩
    · rename_i h0
      split at h
      · cases h
      · rename_i w hw
        obtain ⟨ws', h1, rfl⟩ := Option.map_eq_some_iff.1 h
        obtain ⟨i1, i2, i3, L, j1, j2, j3⟩ := texts_split a ws' h1
        refine ⟨fun i hi => ?_, by simp only [List.length_cons]; omega, fun hl => ?_, (tkOf d, w) :: L, by rw [List.map_cons, j1], by rw [List.map_cons, j2]; simp, fun p hp => ?_⟩
        · cases i with
          | zero => exact ⟨by simp, h0⟩
          | succ i =>
            have := i1 i (by simpa using hi)
            exact ⟨by simp only [List.length_cons]; omega, this.2⟩
        · exact i3 (by simpa using hl)
        · rcases List.mem_cons.1 hp with rfl | hp
          · exact reads_written (show writL _ _ _ = some w from hw)
          · exact j3 p hp
theorem count_l (a : List D) (hn : a.length ≤ 20000) (s : ByteArray) (m : Nat) (hm : m ≤ a.length) (h1 : ∀ i, i < m → ((rd a i).cell 0).int ≠ 0) (h2 : m < a.length → ((rd a m).cell 0).int = 0) (κ : (List D × ByteArray × Int) → Option Bool) : ∀ (n i k : Nat), m - i ≤ n → n < k → i ≤ m →
    Gw02_LexBack.l252 k a s (i : Int) κ = κ (a, s, (m : Int)) := by
  intro n
  induction n with
  | zero =>
    intro i k g1 g2 g3
    obtain ⟨k, rfl⟩ : ∃ k', k = k' + 1 := ⟨k - 1, by omega⟩
    obtain rfl : i = m := by omega
    simp only [Gw02_LexBack.l252]
    by_cases hi : i < a.length
    · rw [decide_eq_true (show (i : Int) < (a.length : Int) by omega), inB_pos (i := (i : Int)) (n := a.length) ⟨by omega, by omega⟩, Bool.or_true, gd_pos rfl, toNat_nat, h2 hi]
      rfl
    · rw [decide_eq_false (show ¬ (i : Int) < (a.length : Int) by omega)]
      rfl
  | succ n ih =>
    intro i k g1 g2 g3
    by_cases hi : i < m
    · obtain ⟨k, rfl⟩ : ∃ k', k = k' + 1 := ⟨k - 1, by omega⟩
      simp only [Gw02_LexBack.l252]
      rw [decide_eq_true (show (i : Int) < (a.length : Int) by omega), inB_pos (i := (i : Int)) (n := a.length) ⟨by omega, by omega⟩, Bool.or_true, gd_pos rfl, toNat_nat, show (((rd a i).cell 0).int != 0) = true from bne_iff_ne.2 (h1 i hi), Bool.and_true, cond_true, w_succ i (by omega)]
      exact ih (i + 1) k (by omega) (by omega) (by omega)
    · exact ih i k (by omega) (by omega) g3
theorem alike_d (x y : List D) (hl : x.length ≤ 1000000) (hlen : y.length = x.length) (h : ∀ i, i < x.length → ((rd x i).cell 0).int = ((rd y i).cell 0).int ∧ ((rd x i).cell 1).str = ((rd y i).cell 1).str ∧ ((rd x i).cell 2).int = ((rd y i).cell 2).int) (κ : Unit → Option Bool) : ∀ (n i k : Nat), x.length - i ≤ n → n < k → i ≤ x.length → Gw02_alike.l58 k x y (i : Int) κ = κ () := by
  intro n
  induction n with
  | zero =>
    intro i k h1 h2 h3
    obtain ⟨k, rfl⟩ : ∃ k', k = k' + 1 := ⟨k - 1, by omega⟩
    simp only [Gw02_alike.l58]
    rw [decide_eq_false (show ¬ (i : Int) < (x.length : Int) by omega), cond_false]
  | succ n ih =>
    intro i k h1 h2 h3
    obtain ⟨k, rfl⟩ : ∃ k', k = k' + 1 := ⟨k - 1, by omega⟩
    simp only [Gw02_alike.l58]
    by_cases hi : i < x.length
    · have g1 : inB (i : Int) x.length = true := inB_pos ⟨by omega, by omega⟩
      have g2 : inB (i : Int) y.length = true := inB_pos ⟨by omega, by omega⟩
      rw [decide_eq_true (show (i : Int) < (x.length : Int) by omega), cond_true, g1, g2]
      simp only [Bool.or_true]
      rw [gd_pos rfl, gd_pos rfl, gd_pos rfl, gd_pos rfl, gd_pos rfl, gd_pos rfl, toNat_nat]
      obtain ⟨c0, c1, c2⟩ := h i hi
      rw [c0, c1, c2]
      simp only [bne_self_eq_false, beq_self_eq_true, Bool.not_true, Bool.or_self, cond_false]
      rw [w_succ _ (by omega)]
      exact ih (i + 1) k (by omega) (by omega) (by omega)
    · rw [decide_eq_false (show ¬ (i : Int) < (x.length : Int) by omega), cond_false]
theorem alike_df (x y : List D) (hl : x.length ≤ 1000000) (hlen : y.length = x.length) (h : ∀ i, i < x.length → ((rd x i).cell 0).int = ((rd y i).cell 0).int ∧ ((rd x i).cell 1).str = ((rd y i).cell 1).str ∧ ((rd x i).cell 2).int = ((rd y i).cell 2).int) : Gw02_alike.f x y = some true := by
  unfold Gw02_alike.f
  have hN := le_NN
  have := alike_d x y hl hlen h (fun _ => some true) x.length 0 NN (by omega) (by omega) (by omega)
  rw [hlen]
  simp only [bne_self_eq_false, cond_false]
  exact this
theorem rd_app_lt (l r : List D) (i : Nat) (h : i < l.length) : rd (l ++ r) i = rd l i := by
  rw [rd_at _ i (by rw [List.length_append]; omega), rd_at l i h, List.getElem_append_left h]
theorem rd_app_eq (l : List D) (x : D) : rd (l ++ [x]) l.length = x := by
  rw [rd_at _ _ (by simp)]; simp
theorem take_rd (l : List D) (m i : Nat) (hi : i < m) (hm : m ≤ l.length) : rd (l.take m) i = rd l i := by
  rw [rd_at _ i (by rw [List.length_take]; omega), rd_at l i (by omega), List.getElem_take]
theorem law_back (a : List D) (ha : ∀ d ∈ a, ((d.cell 1).str).size ≤ 1048576) : Gw02_LexBack.f a = some true := by
  unfold Gw02_LexBack.f
  have hN := le_NN
  have aw : ((Gw02_awake.f).bind fun r1 => some r1) = some true := by rw [awake_f]; rfl
  by_cases hn : a.length > 20000
  · rw [decide_eq_true (show (a.length : Int) > 20000 by omega), cond_true]
    exact aw
  · rw [decide_eq_false (show ¬ (a.length : Int) > 20000 by omega), cond_false, text_f a (by omega) ha, Option.bind_some]
    unfold textR
    cases ht : textsL a with
    | none => exact aw
    | some ws =>
      obtain ⟨i1, i2, i3, L, j1, j2, j3⟩ := texts_split a ws ht
      simp only [bne_self_eq_false, Bool.false_or]
      rw [toD_size]
      by_cases hbig : (joinU ws).length > 40000
      · rw [decide_eq_true (show ((joinU ws).length : Int) > 40000 by omega), cond_true]
        exact aw
      · rw [decide_eq_false (show ¬ ((joinU ws).length : Int) > 40000 by omega), cond_false]
        have hc := count_l a (by omega) ⟨(joinU ws).toArray⟩ ws.length i2 (fun i hi => (i1 i hi).2) i3 (fun y4 => bif decide (y4.2.2 ≥ 20000) then (Gw02_awake.f).bind fun r5 => some r5 else (Glex_Scan.f y4.2.1).bind fun r6 => gd ((!(r6.2.1 == 0)) || (decide (0 ≤ y4.2.2) && decide (y4.2.2 ≤ (y4.1.length : Int)))) (bif (r6.2.1 == 0) then gd (Nat.ble (y4.1.take y4.2.2.toNat).length lim) (gd (Nat.ble ((y4.1.take y4.2.2.toNat).length + ([.r [.i 0, .s ByteArray.empty, .i 0, .i 0]] : List D).length) lim) ((Gw02_alike.f r6.1 ((y4.1.take y4.2.2.toNat) ++ ([.r [.i 0, .s ByteArray.empty, .i 0, .i 0]] : List D))).bind fun r7 => (bif r7 then Gw02_awake.f else some false).bind fun r8 => some (r7 && r8))) else (bif false then Gw02_awake.f else some false).bind fun r9 => some false)) ws.length 0 NN (by omega) (by omega) (by omega)
        have hc' : Gw02_LexBack.l252 NN a ⟨(joinU ws).toArray⟩ 0 _ = _ := hc
        rw [hc']
        simp only
        by_cases h2 : ws.length ≥ 20000
        · rw [decide_eq_true (show (ws.length : Int) ≥ 20000 by omega), cond_true]
          exact aw
        · rw [decide_eq_false (show ¬ (ws.length : Int) ≥ 20000 by omega), cond_false, scan_f]
          have hdat : (⟨(joinU ws).toArray⟩ : ByteArray).data.toList = joinU ws := by show (joinU ws).toArray.toList = _; simp
          rw [hdat, Option.bind_some]
          -- the scan
          obtain ⟨q1, q2⟩ := raw_join L j3 ((joinU ws).length + 1) (joinU ws).length (by rw [j1]; omega)
          rw [j1] at q1 q2
          have hr : rawL (joinU ws) = rawF ((joinU ws).length + 1) (joinU ws) (joinU ws).length := rfl
          rw [← hr] at q1 q2
          have hLl : L.length = ws.length := by rw [← j1]; simp
          have htl : (rawL (joinU ws)).toks.length = ws.length := by
            have := congrArg List.length q2
            simp only [List.length_map] at this
            omega
          have hsc := scan_of (l := joinU ws) (by omega) q1 (by omega)
          rw [scanD_ok hsc]
          simp only [beq_self_eq_true, cond_true, Bool.not_true, Bool.false_or]
          rw [gd_pos (by rw [decide_eq_true (show (0 : Int) ≤ (ws.length : Int) by omega), decide_eq_true (show (ws.length : Int) ≤ (a.length : Int) by omega)]; rfl), toNat_nat]
          have htk : (a.take ws.length).length = ws.length := by rw [List.length_take]; omega
          rw [gd_pos (lim_pos (by omega)), gd_pos (lim_pos (by rw [htk]; simp only [List.length_cons, List.length_nil]; omega))]
          have hal := alike_df (((rawL (joinU ws)).toks ++ [((⟨0, [], 0⟩ : Tk), (joinU ws).length)]).map fun x => tkD x.1 x.2) (a.take ws.length ++ [.r [.i 0, .s ByteArray.empty, .i 0, .i 0]]) (by simp only [List.length_map, List.length_append, List.length_cons, List.length_nil]; omega) (by simp only [List.length_map, List.length_append, List.length_cons, List.length_nil]; omega) (fun i hi => by
            simp only [List.length_map, List.length_append, List.length_cons, List.length_nil] at hi
            rw [List.map_append]
            by_cases hlt : i < ws.length
            · rw [rd_app_lt _ _ i (by rw [List.length_map]; omega), rd_app_lt _ _ i (by omega), rd_tk (rawL (joinU ws)).toks i (by omega), take_rd a ws.length i hlt i2]
              have e : (rawL (joinU ws)).toks[i].1 = tkOf (rd a i) := by
                have h1 := congrArg (fun l => l[i]?) (q2.trans j2)
                simp only [List.getElem?_map] at h1
                rw [List.getElem?_eq_getElem (by omega), List.getElem?_eq_getElem (by omega)] at h1
                have h2 : (rawL (joinU ws)).toks[i].1 = tkOf ((a.take ws.length)[i]'(by omega)) := Option.some.inj h1
                rw [h2]
                congr 1
                rw [List.getElem_take]
                exact (rd_at a i (by omega)).symm
              rw [e]
              exact ⟨rfl, (str_eq _).symm, rfl⟩
            · obtain rfl : i = ws.length := by omega
              have z1 : rd (((rawL (joinU ws)).toks.map fun x => tkD x.1 x.2) ++ ([((⟨0, [], 0⟩ : Tk), (joinU ws).length)] : List (Tk × Nat)).map fun x => tkD x.1 x.2) ws.length = tkD ⟨0, [], 0⟩ (joinU ws).length := by
                have := rd_app_eq ((rawL (joinU ws)).toks.map fun x => tkD x.1 x.2) (tkD ⟨0, [], 0⟩ (joinU ws).length)
                rw [List.length_map, htl] at this
                exact this
              have z2 : rd (a.take ws.length ++ [D.r [.i 0, .s ByteArray.empty, .i 0, .i 0]]) ws.length = D.r [.i 0, .s ByteArray.empty, .i 0, .i 0] := by
                have := rd_app_eq (a.take ws.length) (D.r [.i 0, .s ByteArray.empty, .i 0, .i 0])
                rw [htk] at this
                exact this
              rw [z1, z2]
              exact ⟨rfl, rfl, rfl⟩)
          rw [hal, Option.bind_some, cond_true, awake_f]
          rfl
end Go.Pv
