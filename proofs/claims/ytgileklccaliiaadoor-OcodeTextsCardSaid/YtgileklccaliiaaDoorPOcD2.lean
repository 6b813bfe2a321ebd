/- What the functions answer, in plain words: the plain laws. -/
import Derived.Test.YtgileklccaliiaaDoorPOcD1
import Derived.Lib.ItoaNum
import Derived.Test.YtgileklccaliiaaDoorPOcC
set_option linter.unusedVariables false
set_option linter.unusedSimpArgs false
namespace Go.Pv
set_option maxRecDepth 20000
set_option linter.unusedSimpArgs false
def ahead (o : Op) (d : Int) : Int := if o.f0 = 24 then 0 else d
def depthsL : List Op → Int → List D
  | [], _ => []
  | o :: l, d => .i (ahead o d) :: depthsL l (afterI o d (kindAt o.f0))
def depthsR (c : D) : List D × Int := if checkI c = 0 then (depthsL c.ops 0, 0) else ([], checkI c)
theorem after_ahead (o : Op) (d : Int) (x : D) : afterI o (ahead o d) x = afterI o d x := by
  unfold ahead
  by_cases h : o.f0 = 24
  · rw [if_pos h]
    unfold afterI
    have n18 : ¬ o.f0 = 18 := by rw [h]; decide
    rw [if_neg n18, if_pos h, if_neg n18, if_pos h]
  · rw [if_neg h]

theorem stackGo_next {l : List Op} {at_ : List D} {i : Nat} {d : Int} (hi : i < l.length) (h : stackGo l at_ i d = true) :
    2 ≤ afterI (opAt l i) d (kindAt (opAt l i).f0) ∧ afterI (opAt l i) d (kindAt (opAt l i).f0) ≤ 4000 ∧ stackGo l at_ (i + 1) (afterI (opAt l i) d (kindAt (opAt l i).f0)) = true := by
  rw [stackGo, if_pos hi] at h
  by_cases g : roundOk l at_ i d = true
  · rw [if_pos g] at h
    unfold roundOk at g
    have g1 := and2 g
    have g2 := and2 g1.1
    have g3 := and2 g2.1
    have g4 := and2 g3.1
    exact ⟨of_decide_eq_true g4.2, of_decide_eq_true g3.2, h⟩
  · rw [if_neg g] at h
    exact absurd h (by decide)
theorem depthsL_len : ∀ (l : List Op) (d : Int), (depthsL l d).length = l.length
  | [], _ => rfl
  | o :: l, d => by rw [depthsL, List.length_cons, depthsL_len l, List.length_cons]

def roomP (o : Op) (p : Int) : Int := if o.f0 = 24 then o.f1 else p
def room1 (o : Op) (d p : Int) (out : List D) : List D := if o.f0 = 24 then out else out.set (p - 1).toNat (.i (mx (ri out (p - 1)) d))
def room2 (o : Op) (d p : Int) (out : List D) : List D := out.set (p - 1).toNat (.i (mx (ri out (p - 1)) (afterI o d (kindAt o.f0))))
def roomL : List Op → List D → Int → List D → List D
  | o :: l, d :: ds, p, out => roomL l ds (roomP o p) (room2 o d.int (roomP o p) (room1 o d.int (roomP o p) out))
  | [], _, _, out => out
  | _ :: _, [], _, out => out
def roomR (c : D) : List D × Int := if checkI c = 0 then (roomL c.ops (depthsL c.ops 0) 0 (List.replicate c.procs.toNat (.i 0)), 0) else ([], checkI c)
theorem room1_len (o : Op) (d p : Int) (out : List D) : (room1 o d p out).length = out.length := by unfold room1; split <;> simp
theorem room2_len (o : Op) (d p : Int) (out : List D) : (room2 o d p out).length = out.length := by unfold room2; simp
theorem enter_ok {c : D} {o : Op} (h : opOk c o = true) (h24 : o.f0 = 24) : 1 ≤ o.f1 ∧ o.f1 ≤ c.procs := by
  have h1 := (and2 (opOk_num h)).1
  unfold numOk at h1
  rw [h24, show (kindAt 24).f1 = 5 by kernel_rfl] at h1
  exact inIv_iff.1 h1
theorem order_first (l : List Op) : ∀ (n i : Nat), l.length - i ≤ n → orderGo l i = true → (decide (l.length = 0) || (opAt l 0).f0 == 24) = true
  | 0, i, hn, h => by
    rw [orderGo, if_neg (by omega)] at h
    exact h
  | n + 1, i, hn, h => by
    by_cases hi : i < l.length
    · rw [orderGo, if_pos hi] at h
      by_cases a : (opAt l i).f0 = 29
      · rw [if_pos a] at h
        exact order_first l n _ (by omega) (and2 h).2
      · rw [if_neg a] at h
        by_cases b : (opAt l i).f0 = 30
        · rw [if_pos b] at h
          exact absurd h (by decide)
        · rw [if_neg b] at h
          by_cases e : (opAt l i).f0 = 19
          · rw [if_pos e] at h
            exact order_first l n _ (by omega) (and2 h).2
          · rw [if_neg e] at h
            exact order_first l n _ (by omega) (and2 h).2
    · rw [orderGo, if_neg hi] at h
      exact h
theorem first_enter {c : D} (h : orderB c.ops = true) (hl : 0 < c.ops.length) : (opAt c.ops 0).f0 = 24 := by
  rcases Bool.or_eq_true_iff.1 (order_first c.ops c.ops.length 0 (by omega) h) with h1 | h1
  · have := of_decide_eq_true h1
    omega
  · exact beq_iff_eq.1 h1

theorem scan_fin {l : List Op} {r : Int × Int} : ∀ (n i : Nat) (la : Int), l.length - i = n → i ≤ l.length → scanL (l.drop i) (pcn l i) la = some r → r.1 = pcn l l.length
  | 0, i, la, hn, hi, h => by
    obtain rfl : i = l.length := by omega
    rw [List.drop_length] at h
    obtain rfl : (pcn l l.length, la) = r := Option.some.inj h
    rfl
  | n + 1, i, la, hn, hi, h => by
    have hlt : i < l.length := by omega
    rw [scan_drop l i _ la hlt] at h
    by_cases e : (opAt l i).f0 = 24
    · rw [if_pos e] at h
      have hp : pcn l i + 1 = pcn l (i + 1) := by rw [pcn, if_pos e]
      by_cases e2 : (opAt l i).f1 = pcn l i + 1
      · rw [if_pos e2, hp] at h
        exact scan_fin n (i + 1) la (by omega) (by omega) h
      · rw [if_neg e2] at h; exact absurd h (by simp)
    · have hp : pcn l i = pcn l (i + 1) := by rw [pcn, if_neg e, Int.add_zero]
      rw [if_neg e, hp] at h
      by_cases e2 : (opAt l i).f0 = 19
      · rw [if_pos e2] at h
        exact scan_fin n (i + 1) _ (by omega) (by omega) h
      · rw [if_neg e2] at h
        exact scan_fin n (i + 1) _ (by omega) (by omega) h
theorem pcn_mono (l : List Op) (i : Nat) : ∀ n, pcn l i ≤ pcn l (i + n)
  | 0 => Int.le_refl _
  | n + 1 => by
    have := pcn_mono l i n
    rw [show i + (n + 1) = (i + n) + 1 by omega, pcn]
    split <;> omega
theorem valid_scan {c : D} (hv : Valid c) : scanL c.ops 0 0 = some (c.procs, c.labels) := by
  have h := placR_scan c hv.st.pl
  cases hs : scanL c.ops 0 0 with
  | none => rw [hs] at h; exact absurd h (by simp [scanOk])
  | some r =>
    rw [hs] at h
    have := and2 (show (r.1 == c.procs && r.2 == c.labels) = true from h)
    rw [← beq_iff_eq.1 this.1, ← beq_iff_eq.1 this.2]

theorem ri_left : ∀ (xs ys : List D) (j : Nat), j < xs.length → rd (xs ++ ys) j = rd xs j
  | [], _, _, h => absurd h (by simp)
  | x :: xs, ys, 0, h => rfl
  | x :: xs, ys, j + 1, h => ri_left xs ys j (by simpa using h)
theorem rd_left (xs ys : List D) (j : Int) (h : j.toNat < xs.length) : ri (xs ++ ys) j = ri xs j := by
  unfold ri
  rw [ri_left _ _ _ h]
theorem ri_end : ∀ (xs : List D) (a : D) (ys : List D), rd (xs ++ a :: ys) xs.length = a
  | [], a, ys => rfl
  | x :: xs, a, ys => ri_end xs a ys
theorem rd_end (xs : List D) (a : Int) (ys : List D) (j : Int) (h : j.toNat = xs.length) : ri (xs ++ .i a :: ys) j = a := by
  unfold ri
  rw [h, ri_end]
  rfl
theorem set_end (xs : List D) (a b : D) (ys : List D) : (xs ++ a :: ys).set xs.length b = xs ++ b :: ys := by
  rw [List.set_append_right _ _ (Nat.le_refl _), Nat.sub_self]
  rfl
/-! ### the program's depths -/
theorem ble_pos {i n : Nat} (h : i ≤ n) : Nat.ble i n = true := Nat.ble_eq_true_of_le h
structure Op1 (c : D) (i : Nat) : Prop where
  op : opOk c (opAt c.ops i) = true
  s1 : Small (opAt c.ops i).f1
  s2 : Small (opAt c.ops i).f2
  k0 : 0 ≤ (opAt c.ops i).f0
  k1 : (opAt c.ops i).f0 < 31
  k2 : Small (kindAt (opAt c.ops i).f0).f2
  k3 : Small (kindAt (opAt c.ops i).f0).f3
theorem op1 {c : D} (hv : Valid c) {i : Nat} (hi : i < c.ops.length) : Op1 c i := by
  have hlim := hv.lim
  have hop : opOk c (opAt c.ops i) = true := List.all_eq_true.1 hv.st.ops _ (rd_mem hi)
  have hsm := op_small hop (by omega) (by omega) (by omega)
  have hf := and2 (and2 hop).1
  have f1 := of_decide_eq_true hf.1
  have f2 := of_decide_eq_true hf.2
  obtain ⟨k2, k3⟩ := kind_small (opAt c.ops i).f0 (by omega) f2
  exact ⟨hop, by unfold Small; omega, by unfold Small; omega, by omega, f2, by unfold Small; omega, by unfold Small; omega⟩
theorem pdepths_l (c : D) (hv : Valid c) (κ : List D → Option (List D × Int)) : ∀ (n i k : Nat) (xs : List D) (d : Int), c.ops.length - i = n → i ≤ c.ops.length → n < k → xs.length = i → 0 ≤ d → d ≤ 4000 → stackGo c.ops (placR c).1 i d = true →
    Gocode_Depths.l1018 k kindTab xs d c.ops (c.ops.length : Int) (i : Int) κ = κ (xs ++ depthsL (c.ops.drop i) d)
  | 0, i, k, xs, d, hn, hi, hk, hx, h0, h1, hs => by
    obtain ⟨k, rfl⟩ : ∃ m, k = m + 1 := ⟨k - 1, by omega⟩
    simp only [Gocode_Depths.l1018]
    rw [decide_eq_false (by omega), List.drop_eq_nil_of_le (by omega), depthsL, List.append_nil]
    rfl
  | n + 1, i, k, xs, d, hn, hi, hk, hx, h0, h1, hs => by
    obtain ⟨k, rfl⟩ : ∃ m, k = m + 1 := ⟨k - 1, by omega⟩
    have hlt : i < c.ops.length := by omega
    have o1 := op1 hv hlt
    have hlim := hv.lim
    obtain ⟨a1, a2, a3⟩ := stackGo_next hlt hs
    have ih := fun (xs : List D) (hx : xs.length = i + 1) => pdepths_l c hv κ n (i + 1) k xs _ (by omega) (by omega) (by omega) hx (by omega) a2 a3
    have key : ∀ q : Int, q = ahead (opAt c.ops i) d → Gocode_Depths.p130355 kindTab xs q (rd c.ops i) c.ops (c.ops.length : Int) (i : Int) (fun y4 => Gocode_Depths.l1018 k y4.1 y4.2.1 y4.2.2.1 y4.2.2.2.1 y4.2.2.2.2.1 (IntKind.i64.wrap (y4.2.2.2.2.2 + 1)) κ) = κ (xs ++ depthsL (c.ops.drop i) d) := by
      intro q hq
      have hA : afterI (opAt c.ops i) q (kindAt (opAt c.ops i).f0) = afterI (opAt c.ops i) d (kindAt (opAt c.ops i).f0) := by rw [hq, after_ahead]
      have hqs : Small q := by rw [hq]; unfold Small ahead; split <;> omega
      unfold Gocode_Depths.p130355
      have g1 : Nat.ble (xs.length + ([.i q] : List D).length) lim = true := ble_pos (by simp only [List.length_singleton]; unfold lim; omega)
      have g2 : (inB ((rd c.ops i).cell 0).int 31 && inB ((rd c.ops i).cell 0).int kindTab.length) = true := by
        have b := o1.k0
        have e := o1.k1
        rw [kindTab_len, show inB ((rd c.ops i).cell 0).int 31 = true from inB_pos ⟨b, by exact e⟩]; rfl
      have g3 : Nat.blt ((rd c.ops i).cell 0).int.toNat kindTab.length = true := by
        have b := o1.k0
        have e := o1.k1
        rw [kindTab_len]
        exact blt_pos (by have : (opAt c.ops i).f0.toNat < 31 := by omega
                          exact this)
      have e3 : Gocode_after.f (rd c.ops i) q (rd kindTab ((rd c.ops i).cell 0).int.toNat) = some (afterI (opAt c.ops i) q (kindAt (opAt c.ops i).f0)) := after_f _ _ _ o1.s1 o1.s2 hqs o1.k2 o1.k3
      rw [gd_pos g1, gd_pos g2, gd_pos g3, e3, Option.bind_some]
      simp only [w_succ i (show (i : Int) + 1 ≤ 9223372036854775807 by omega), hA]
      rw [ih _ (by simp [hx]), drop_rd c.ops i hlt, depthsL, ← hq, List.append_assoc]
      rfl
    simp only [Gocode_Depths.l1018, toNat_nat]
    rw [decide_eq_true (show (i : Int) < c.ops.length by omega), cond_true, gd_pos (inB_pos (by omega))]
    by_cases e : (opAt c.ops i).f0 = 24
    · rw [show (((rd c.ops i).cell 0).int == 24) = true from beq_iff_eq.2 e, cond_true]
      exact key 0 (by unfold ahead; rw [if_pos e])
    · rw [show (((rd c.ops i).cell 0).int == 24) = false from beq_eq_false_iff_ne.2 e, cond_false]
      exact key d (by unfold ahead; rw [if_neg e])
theorem bne0 {x : Int} (h : x = 0) : (x != 0) = false := by rw [h]; rfl
theorem depths_f (c : D) (hf : Fine c) : Gocode_Depths.f c = some (depthsR c) := by
  unfold Gocode_Depths.f depthsR
  rw [check_f c hf, Option.bind_some]
  by_cases g : checkI c = 0
  · have hv := check_ok hf g
    rw [bne0 g, cond_false, if_pos g, kinds_f, Option.bind_some, gd_pos (by rw [kindTab_len]; rfl)]
    have q := pdepths_l c hv (fun y6 => some (y6, 0)) c.ops.length 0 NN [] 0 (by omega) (by omega) (by have := le_NN; have := hf.o; omega) rfl (by omega) (by omega) hv.stacked
    exact q
  · rw [bne_iff_ne.2 g, cond_true, if_neg g]
end Go.Pv

namespace Go.Pv
set_option maxRecDepth 20000
theorem ext_digit : ∀ d : Nat, d < 10 → str30313233343536373839.extract d (d + 1) = toD [UInt8.ofNat (48 + d)] := by decide
theorem dec_k (n : Nat) : ∀ (j : Nat), j ≤ 20 → n < 10 ^ (j + 1) → n ≤ 1000000000000 → ∀ k, j < k → (Gr06_Decimal_S.rec k (n : Int) : Option ByteArray) = some (toD (Lib.decDigits n)) ∧ (Lib.decDigits n).length ≤ j + 1 := by
  induction n using Nat.strongRecOn with
  | _ n ih =>
    intro j hj20 hj hn k hk
    obtain ⟨k, rfl⟩ : ∃ m, k = m + 1 := ⟨k - 1, by omega⟩
    show Gr06_Decimal.f (Gr06_Decimal_S.rec k) (n : Int) = _ ∧ _
    unfold Gr06_Decimal.f
    rw [decide_eq_false (show ¬ (n : Int) < 0 by omega), cond_false]
    have h10 : (!((10 : Nat) == 0)) = true := by decide
    have hs : (str30313233343536373839.size : Int) = ((10 : Nat) : Int) := rfl
    have dig : ∀ d : Nat, d < 10 → (decide ((0 : Int) ≤ (d : Int)) && (decide ((d : Int) ≤ ((d + 1 : Nat) : Int)) && decide (((d + 1 : Nat) : Int) ≤ (str30313233343536373839.size : Int)))) = true := fun d hd => by
      rw [hs, decide_eq_true (by omega), decide_eq_true (by omega), decide_eq_true (by omega)]; rfl
    rw [Lib.decDigits]
    by_cases h : n < 10
    · rw [decide_eq_true (show (n : Int) < 10 by omega), cond_true, dif_pos h, w_succ n (by omega), gd_pos (dig n h), toNat_nat, toNat_nat, ext_digit n h]
      exact ⟨rfl, by simp⟩
    · have hj0 : 1 ≤ j := by
        rcases Nat.eq_zero_or_pos j with rfl | h'
        · simp at hj; omega
        · exact h'
      obtain ⟨j, rfl⟩ : ∃ m, j = m + 1 := ⟨j - 1, by omega⟩
      have hdiv : n / 10 < 10 ^ (j + 1) := by
        rw [Nat.div_lt_iff_lt_mul (by decide)]
        rw [Nat.pow_succ] at hj; exact hj
      have ed : (n : Int).tdiv 10 = ((n / 10 : Nat) : Int) := rfl
      have em : (n : Int).tmod 10 = ((n % 10 : Nat) : Int) := rfl
      obtain ⟨r1, r2⟩ := ih (n / 10) (by omega) j (by omega) hdiv (by omega) k (by omega)
      rw [decide_eq_false (show ¬ (n : Int) < 10 by omega), cond_false, dif_neg h, gd_pos h10, ed, w64 _ (by omega), r1, Option.bind_some, gd_pos h10, gd_pos h10, em, w_succ (n % 10) (by omega), gd_pos (dig (n % 10) (by omega)), toNat_nat, toNat_nat, ext_digit (n % 10) (by omega)]
      rw [gd_pos (decide_eq_true (by rw [toD_size, toD_size, List.length_singleton]; unfold maxS; omega)), app_arr]
      exact ⟨rfl, by rw [List.length_append]; simp; exact r2⟩
/-- A number's text. -/
abbrev numL (n : Int) : List UInt8 := Lib.itoa n
theorem dec_f (n : Int) (h : -1000000000000 ≤ n ∧ n ≤ 1000000000000) : (Gr06_Decimal.F n : Option ByteArray) = some (toD (numL n)) ∧ (numL n).length ≤ 20 := by
  have hN := le_NN
  rcases Int.lt_or_le n 0 with hn | hn
  · obtain ⟨m, hm⟩ : ∃ m : Nat, n = -(m : Int) := ⟨n.natAbs, by omega⟩
    obtain ⟨k, hk⟩ : ∃ k, NN = k + 1 := ⟨NN - 1, by omega⟩
    obtain ⟨r1, r2⟩ := dec_k m 12 (by decide) (by calc m ≤ 1000000000000 := by omega
      _ < 10 ^ (12 + 1) := by decide) (by omega) k (by omega)
    have e : numL n = 45 :: Lib.decDigits m := by
      unfold numL Lib.itoa
      rw [if_pos hn, show n.natAbs = m by omega]
    refine ⟨?_, by rw [e, List.length_cons]; omega⟩
    show (Gr06_Decimal_S.rec NN n : Option ByteArray) = _
    rw [hk]
    show Gr06_Decimal.f (Gr06_Decimal_S.rec k) n = _
    unfold Gr06_Decimal.f
    rw [decide_eq_true hn, cond_true, show (n == (-9223372036854775808)) = false by rw [beq_eq_false_iff_ne]; omega, cond_false, w64 (0 - n) (by omega), show (0 - n) = (m : Int) by omega, r1, Option.bind_some, gd_pos (decide_eq_true (by show 1 + (toD (Lib.decDigits m)).size ≤ maxS; rw [toD_size]; unfold maxS; omega)), e]
    show some ((⟨([45] : List UInt8).toArray⟩ : ByteArray) ++ _) = _
    rw [app_arr]; rfl
  · obtain ⟨m, hm⟩ : ∃ m : Nat, n = (m : Int) := ⟨n.toNat, by omega⟩
    subst hm
    obtain ⟨r1, r2⟩ := dec_k m 12 (by decide) (by calc m ≤ 1000000000000 := by omega
      _ < 10 ^ (12 + 1) := by decide) (by omega) NN (by omega)
    have e : numL (m : Int) = Lib.decDigits m := by
      unfold numL Lib.itoa
      rw [if_neg (by omega), toNat_nat]
    rw [e]
    exact ⟨r1, by omega⟩
theorem itoa_f (n : Int) (h : -1000000000000 ≤ n ∧ n ≤ 1000000000000) : Gstrconv_Itoa.f n = some (toD (numL n)) := by
  unfold Gstrconv_Itoa.f
  rw [decide_eq_true (by omega), decide_eq_true (by omega)]; rfl
end Go.Pv

namespace Go.Pv
set_option maxRecDepth 20000
def nameTab : List D := [.s str6e756d, .s str6c6f63616c, .s str7075746c, .s str616464726c, .s str676c6f62616c, .s str70757467, .s str6164647267, .s str737461746963, .s str70757473, .s str6164647273, .s str70726f63, .s str6c6f6164, .s str73746f7265, .s str67657462, .s str70757462, .s str62696e, .s str756e, .s str737461636b, .s str6c6162656c, .s str6a756d70, .s str74727565, .s str66616c7365, .s str63616c6c, .s str656e746572, .s str72657475726e, .s str6261636b, .s str726573756c74, .s str74616b65, .s str737769746368, .s str63617365]
def operTab : List D := [.s str6d756c, .s str646976, .s str72656d, .s str616464, .s str737562, .s str73686c, .s str736872, .s str616e64, .s str6f72, .s str786f72, .s str657176, .s str6571, .s str6e65, .s str6c74, .s str6c65, .s str6774, .s str6765, .s str6e6567, .s str6e6f74]
theorem names_f : Gr06_Names.f = some nameTab := rfl
theorem rops_f : Gr06_operators.f = some operTab := rfl
theorem ops_f : Gocode_operators.f = some operTab := by kernel_rfl
/-- What the tables say of each instruction. -/
def tabOk (i : Nat) : Bool := ((kindAt ((i + 1 : Nat) : Int)).cell 0).str.data.toList == ((rd nameTab i).str.data.toList) && Nat.ble (rd nameTab i).str.size 10 &&
  ((((kindAt ((i + 1 : Nat) : Int)).cell 1).int == 7) == (i + 1 == 16)) && ((((kindAt ((i + 1 : Nat) : Int)).cell 1).int == 8) == (i + 1 == 17))
theorem tab_all : (List.range 30).all tabOk = true := by kernel_rfl
theorem oper_all : (List.range 19).all (fun i => Nat.ble (rd operTab i).str.size 10) = true := by kernel_rfl
theorem tab_at {i : Nat} (h : i < 30) : ((kindAt ((i + 1 : Nat) : Int)).cell 0).str = (rd nameTab i).str ∧ (rd nameTab i).str.size ≤ 10 ∧ ((((kindAt ((i + 1 : Nat) : Int)).cell 1).int == 7) = (i + 1 == 16)) ∧ ((((kindAt ((i + 1 : Nat) : Int)).cell 1).int == 8) = (i + 1 == 17)) := by
  have := List.all_eq_true.1 tab_all i (List.mem_range.2 h)
  unfold tabOk at this
  simp only [Bool.and_eq_true, beq_iff_eq] at this
  obtain ⟨⟨⟨h1, h2⟩, h3⟩, h4⟩ := this
  exact ⟨bytes_eq h1, Nat.le_of_ble_eq_true h2, h3, h4⟩
/-- Bounds of an instruction's numbers. -/
structure OpNum (o : Op) : Prop where
  op : 1 ≤ o.f0 ∧ o.f0 < 31
  n : -1000000000000 ≤ o.f1 ∧ o.f1 ≤ 1000000000000
  m : -1000000000000 ≤ o.f2 ∧ o.f2 ≤ 1000000000000
  oper : o.f0 = 16 ∨ o.f0 = 17 → 1 ≤ o.f1 ∧ o.f1 ≤ 19
theorem op_num {c : D} {o : Op} (h : opOk c o = true) (hd : c.data.length ≤ 1000000) (hp : c.procs ≤ 1000000) (hl : c.labels ≤ 1000000) : OpNum o := by
  unfold opOk at h
  simp only [Bool.and_eq_true, decide_eq_true_eq] at h
  obtain ⟨⟨h1, h2⟩, h3⟩ := h
  obtain ⟨i, hi⟩ : ∃ i : Nat, o.f0 = ((i + 1 : Nat) : Int) := ⟨(o.f0 - 1).toNat, by omega⟩
  obtain ⟨-, -, k7, k8⟩ := tab_at (i := i) (by omega)
  rw [hi] at h3
  unfold numbersB numOk at h3
  rw [Bool.and_eq_true] at h3
  obtain ⟨h3, h4⟩ := h3
  rw [← hi] at k7 k8 h3
  have hm : -1000000000000 ≤ o.f2 ∧ o.f2 ≤ 1000000000000 := by
    split at h4
    · have := inIv_iff.1 h4; omega
    · split at h4
      · have := inIv_iff.1 h4; omega
      · split at h4
        · have := inIv_iff.1 h4; omega
        · have := eq_of_beq h4; omega
  have hb : ∀ lo hi : Int, inIv o.f1 lo hi = true → -1000000000000 ≤ lo → hi ≤ 1000000000000 → -1000000000000 ≤ o.f1 ∧ o.f1 ≤ 1000000000000 := fun lo hi h a b => by have := inIv_iff.1 h; omega
  have hk : (kindAt o.f0).f1 = ((kindAt o.f0).cell 1).int := rfl
  refine ⟨⟨h1, h2⟩, ?_, hm, fun ho => ?_⟩
  · split at h3
    · have := eq_of_beq h3; omega
    · split at h3
      · exact hb _ _ h3 (by omega) (by omega)
      · split at h3
        · exact hb _ _ h3 (by omega) (by omega)
        · split at h3
          · exact hb _ _ h3 (by omega) (by omega)
          · split at h3
            · exact hb _ _ h3 (by omega) (by omega)
            · split at h3
              · exact hb _ _ h3 (by omega) (by omega)
              · split at h3
                · exact hb _ _ h3 (by omega) (by omega)
                · split at h3
                  · exact hb _ _ h3 (by omega) (by omega)
                  · split at h3
                    · rw [Bool.or_eq_true] at h3
                      rcases h3 with h3 | h3 <;> (have := eq_of_beq h3; omega)
                    · cases h3
  · have e7 : o.f0 = 16 → (kindAt o.f0).f1 = 7 := fun e => by
      have : (i + 1 == 16) = true := by rw [beq_iff_eq]; omega
      rw [this] at k7
      exact eq_of_beq k7
    have e8 : o.f0 = 17 → (kindAt o.f0).f1 = 8 := fun e => by
      have : (i + 1 == 17) = true := by rw [beq_iff_eq]; omega
      rw [this] at k8
      exact eq_of_beq k8
    rcases ho with ho | ho
    · rw [e7 ho] at h3
      simp only [show ¬ (7 : Int) = 0 by decide, show ¬ (7 : Int) = 1 by decide, show ¬ (7 : Int) = 2 by decide, show ¬ (7 : Int) = 3 by decide, show ¬ (7 : Int) = 4 by decide, show ¬ (7 : Int) = 5 by decide, show ¬ (7 : Int) = 6 by decide, if_false, if_true] at h3
      have := inIv_iff.1 h3; omega
    · rw [e8 ho] at h3
      simp only [show ¬ (8 : Int) = 0 by decide, show ¬ (8 : Int) = 1 by decide, show ¬ (8 : Int) = 2 by decide, show ¬ (8 : Int) = 3 by decide, show ¬ (8 : Int) = 4 by decide, show ¬ (8 : Int) = 5 by decide, show ¬ (8 : Int) = 6 by decide, show ¬ (8 : Int) = 7 by decide, if_false, if_true, Bool.or_eq_true] at h3
      rcases h3 with h3 | h3 <;> (have := eq_of_beq h3; omega)
end Go.Pv

namespace Go.Pv
set_option maxRecDepth 20000
def lineL (o : Op) : List UInt8 := (rd nameTab (o.f0 - 1).toNat).str.data.toList ++ ([32] ++ (if o.f0 = 16 ∨ o.f0 = 17 then (rd operTab (o.f1 - 1).toNat).str.data.toList else numL o.f1 ++ (if o.f0 = 24 ∨ o.f0 = 29 ∨ o.f0 = 30 then [32] ++ numL o.f2 else [])))
theorem arr_str (s : ByteArray) : s = toD s.data.toList := (bytes_eq rfl).symm
theorem str_sp : str20 = toD [32] := rfl
theorem str_nl : str0a = toD [10] := rfl
theorem sz_ok {x y : ByteArray} (h : x.size + y.size ≤ 1000000000) : decide (x.size + y.size ≤ maxS) = true := decide_eq_true (by unfold maxS; omega)
theorem oper_len {i : Nat} (h : i < 19) : (rd operTab i).str.size ≤ 10 := Nat.le_of_ble_eq_true (List.all_eq_true.1 oper_all i (List.mem_range.2 h))
theorem line_len {o : Op} (h : OpNum o) : (lineL o).length ≤ 60 := by
  obtain ⟨i, hi⟩ : ∃ i : Nat, o.f0 = ((i + 1 : Nat) : Int) := ⟨(o.f0 - 1).toNat, by have := h.op; omega⟩
  have h30 : i < 30 := by have := h.op; omega
  obtain ⟨-, k2, -, -⟩ := tab_at h30
  have e : (o.f0 - 1).toNat = i := by omega
  have n1 := (dec_f o.f1 h.n).2
  have n2 := (dec_f o.f2 h.m).2
  unfold lineL
  rw [e, List.length_append, List.length_append, data_len]
  split
  · rename_i hc
    obtain ⟨j, hj⟩ : ∃ j : Nat, o.f1 = ((j + 1 : Nat) : Int) := ⟨(o.f1 - 1).toNat, by have := h.oper hc; omega⟩
    have := oper_len (i := j) (by have := h.oper hc; omega)
    rw [show (o.f1 - 1).toNat = j by omega, data_len]
    simp only [List.length_singleton]; omega
  · rw [List.length_append]
    split
    · rw [List.length_append]; simp only [List.length_singleton]; omega
    · simp only [List.length_singleton, List.length_nil]; omega
theorem written_f {o : Op} (h : OpNum o) : Gocode_written.f o (kindAt o.f0) = some (toD (lineL o)) := by
  obtain ⟨i, hi⟩ : ∃ i : Nat, o.f0 = ((i + 1 : Nat) : Int) := ⟨(o.f0 - 1).toNat, by have := h.op; omega⟩
  have h30 : i < 30 := by have := h.op; omega
  obtain ⟨k1, k2, k7, k8⟩ := tab_at h30
  rw [← hi] at k1 k7 k8
  have e : (o.f0 - 1).toNat = i := by omega
  have hs1 : str20.size = 1 := rfl
  have c7 : ((i + 1 == 16) || (i + 1 == 17)) = decide (o.f0 = 16 ∨ o.f0 = 17) := by
    rw [Bool.eq_iff_iff, Bool.or_eq_true, beq_iff_eq, beq_iff_eq, decide_eq_true_eq]; omega
  unfold Gocode_written.f lineL
  rw [k1, k7, k8, c7, e, gd_pos (sz_ok (by omega)), ops_f, Option.bind_some]
  by_cases hc : o.f0 = 16 ∨ o.f0 = 17
  · obtain ⟨j, hj⟩ : ∃ j : Nat, o.f1 = ((j + 1 : Nat) : Int) := ⟨(o.f1 - 1).toNat, by have := h.oper hc; omega⟩
    have h19 : j < 19 := by have := h.oper hc; omega
    have hl := oper_len h19
    have hol : operTab.length = 19 := rfl
    have ej : IntKind.i64.wrap ((o.cell 1).int - 1) = (j : Int) := by
      show IntKind.i64.wrap (o.f1 - 1) = _
      rw [hj, w64 _ (by omega)]; omega
    rw [decide_eq_true hc, cond_true, ej, gd_pos (inB_pos (by rw [hol]; omega)), toNat_nat, gd_pos (blt_pos (by rw [hol]; exact h19)), gd_pos (sz_ok (by rw [app_size]; omega)), if_pos hc, show (o.f1 - 1).toNat = j by omega]
    congr 1
    refine bytes_eq ?_
    rw [app_data, app_data]
    simp [str_sp]
  · have hd : (((o.cell 0).int == 24) || ((o.cell 0).int == 29) || ((o.cell 0).int == 30)) = decide (o.f0 = 24 ∨ o.f0 = 29 ∨ o.f0 = 30) := by
      rw [Bool.eq_iff_iff, Bool.or_eq_true, Bool.or_eq_true, beq_iff_eq, beq_iff_eq, beq_iff_eq, decide_eq_true_eq]
      exact ⟨fun h => h.elim (fun h => h.elim .inl fun h => .inr (.inl h)) fun h => .inr (.inr h), fun h => h.elim (fun h => .inl (.inl h)) fun h => h.elim (fun h => .inl (.inr h)) .inr⟩
    have n1 := (dec_f o.f1 h.n).2
    have n2 := (dec_f o.f2 h.m).2
    have z1 : (toD (numL o.f1)).size = (numL o.f1).length := toD_size _
    have z2 : (toD (numL o.f2)).size = (numL o.f2).length := toD_size _
    have i1 : Gstrconv_Itoa.f (o.cell 1).int = some (toD (numL o.f1)) := itoa_f o.f1 h.n
    have i2 : Gstrconv_Itoa.f (o.cell 2).int = some (toD (numL o.f2)) := itoa_f o.f2 h.m
    unfold Gocode_double.f
    rw [decide_eq_false hc, cond_false, if_neg hc, i1, Option.bind_some, gd_pos (sz_ok (by rw [app_size, z1]; omega)), Option.bind_some, hd]
    by_cases h2 : o.f0 = 24 ∨ o.f0 = 29 ∨ o.f0 = 30
    · rw [decide_eq_true h2, cond_true, i2, Option.bind_some, gd_pos (sz_ok (by rw [z2]; omega)), gd_pos (sz_ok (by rw [app_size, app_size, app_size, z1, z2]; omega)), if_pos h2]
      congr 1
      refine bytes_eq ?_
      simp [app_data, str_sp]
    · rw [decide_eq_false h2, cond_false, if_neg h2]
      congr 1
      refine bytes_eq ?_
      simp [app_data, str_sp]
theorem rline_f {o : Op} (h : OpNum o) : Gr06_line.f o = some (toD (lineL o ++ [10])) := by
  obtain ⟨i, hi⟩ : ∃ i : Nat, o.f0 = ((i + 1 : Nat) : Int) := ⟨(o.f0 - 1).toNat, by have := h.op; omega⟩
  have h30 : i < 30 := by have := h.op; omega
  obtain ⟨-, k2, -, -⟩ := tab_at h30
  have e : (o.f0 - 1).toNat = i := by omega
  have hs1 : str20.size = 1 := rfl
  have hs2 : str0a.size = 1 := rfl
  have hnl : nameTab.length = 30 := rfl
  have ei : IntKind.i64.wrap ((o.cell 0).int - 1) = (i : Int) := by
    show IntKind.i64.wrap (o.f0 - 1) = _
    rw [hi, w64 _ (by omega)]; omega
  have c7 : (((o.cell 0).int == 16) || ((o.cell 0).int == 17)) = decide (o.f0 = 16 ∨ o.f0 = 17) := by
    rw [Bool.eq_iff_iff, Bool.or_eq_true, beq_iff_eq, beq_iff_eq, decide_eq_true_eq]
  have hd : (((o.cell 0).int == 24) || ((o.cell 0).int == 29) || ((o.cell 0).int == 30)) = decide (o.f0 = 24 ∨ o.f0 = 29 ∨ o.f0 = 30) := by
    rw [Bool.eq_iff_iff, Bool.or_eq_true, Bool.or_eq_true, beq_iff_eq, beq_iff_eq, beq_iff_eq, decide_eq_true_eq]
    exact ⟨fun h => h.elim (fun h => h.elim .inl fun h => .inr (.inl h)) fun h => .inr (.inr h), fun h => h.elim (fun h => .inl (.inl h)) fun h => h.elim (fun h => .inl (.inr h)) .inr⟩
  unfold Gr06_line.f lineL
  rw [names_f, Option.bind_some, ei, gd_pos (inB_pos (by rw [hnl]; omega)), toNat_nat, gd_pos (blt_pos (by rw [hnl]; exact h30)), gd_pos (sz_ok (by omega)), c7, e, rops_f, Option.bind_some]
  by_cases hc : o.f0 = 16 ∨ o.f0 = 17
  · obtain ⟨j, hj⟩ : ∃ j : Nat, o.f1 = ((j + 1 : Nat) : Int) := ⟨(o.f1 - 1).toNat, by have := h.oper hc; omega⟩
    have h19 : j < 19 := by have := h.oper hc; omega
    have hl := oper_len h19
    have hol : operTab.length = 19 := rfl
    have ej : IntKind.i64.wrap ((o.cell 1).int - 1) = (j : Int) := by
      show IntKind.i64.wrap (o.f1 - 1) = _
      rw [hj, w64 _ (by omega)]; omega
    rw [decide_eq_true hc, cond_true, ej, gd_pos (inB_pos (by rw [hol]; omega)), toNat_nat, gd_pos (blt_pos (by rw [hol]; exact h19)), gd_pos (sz_ok (by rw [app_size]; omega)), gd_pos (sz_ok (by rw [app_size, app_size]; omega)), if_pos hc, show (o.f1 - 1).toNat = j by omega]
    congr 1
    refine bytes_eq ?_
    simp [app_data, str_sp, str_nl]
  · have n1 := dec_f o.f1 h.n
    have n2 := dec_f o.f2 h.m
    have z1 : (toD (numL o.f1)).size = (numL o.f1).length := toD_size _
    have z2 : (toD (numL o.f2)).size = (numL o.f2).length := toD_size _
    have i1 : (Gr06_Decimal.F (o.cell 1).int : Option ByteArray) = some (toD (numL o.f1)) := n1.1
    have i2 : (Gr06_Decimal.F (o.cell 2).int : Option ByteArray) = some (toD (numL o.f2)) := n2.1
    rw [decide_eq_false hc, cond_false, if_neg hc, i1, Option.bind_some, gd_pos (sz_ok (by rw [app_size, z1]; omega)), hd]
    by_cases h2 : o.f0 = 24 ∨ o.f0 = 29 ∨ o.f0 = 30
    · rw [decide_eq_true h2, cond_true, i2, Option.bind_some, gd_pos (sz_ok (by rw [z2]; omega)), gd_pos (sz_ok (by rw [app_size, app_size, app_size, z1, z2]; omega)), gd_pos (sz_ok (by rw [app_size, app_size, app_size, app_size, z1, z2]; omega)), if_pos h2]
      congr 1
      refine bytes_eq ?_
      simp [app_data, str_sp, str_nl]
    · rw [decide_eq_false h2, cond_false, if_neg h2, gd_pos (sz_ok (by rw [app_size, app_size, z1]; omega))]
      congr 1
      refine bytes_eq ?_
      simp [app_data, str_sp, str_nl]
end Go.Pv

namespace Go.Pv
set_option maxRecDepth 20000
theorem sz_okB {x y : ByteArray} (h : x.size + y.size ≤ 100000000000000) : decide (x.size + y.size ≤ maxS) = true := decide_eq_true (by unfold maxS; omega)
theorem toDs (l : List UInt8) : (toD l).size = l.length := toD_size _
theorem bputB (l : List UInt8) (c : UInt8) (h : l.length ≤ 100000000000000) : GBuilder_WriteByte.f (bD l) (c.toNat : Int) = some (0, bD (l ++ [c])) := by
  unfold GBuilder_WriteByte.f
  rw [show (bD l).length = l.length from List.length_map _, Nat.ble_eq_true_of_le (show l.length + 1 ≤ 140737488355328 by omega), cond_true]
  simp
theorem putB (l s : List UInt8) (h : l.length + s.length ≤ 100000000000000) : GBuilder_WriteString.f (bD l) (toD s) = some ((s.length : Int), 0, bD (l ++ s)) := by
  unfold GBuilder_WriteString.f
  rw [show (bD l).length = l.length from List.length_map _, toDs, Nat.ble_eq_true_of_le (show l.length + s.length ≤ 140737488355328 by omega), cond_true, ubytes_bD]
  simp
theorem text1_f (acc s : List UInt8) (h : acc.length + s.length ≤ 10000000000000) : Gocode_Text_1.f (toD s) (bD acc) = some (bD (acc ++ (s ++ [10]))) := by
  unfold Gocode_Text_1.f
  rw [putB _ _ (by omega), Option.bind_some]
  rw [show (10 : Int) = ((10 : UInt8).toNat : Int) from rfl, bputB _ _ (by rw [List.length_append]; omega), Option.bind_some, List.append_assoc]
/-! ### Words -/
def wordsT (l : List D) : List UInt8 := l.flatMap fun d => [32] ++ numL d.int
def Nums (l : List D) : Prop := ∀ d ∈ l, -1000000000000 ≤ d.int ∧ d.int ≤ 1000000000000
theorem wordsT_len : ∀ (l : List D), Nums l → (wordsT l).length ≤ l.length * 21
  | [], _ => Nat.zero_le _
  | d :: r, h => by
    have := (dec_f d.int (h d (List.mem_cons_self ..))).2
    have := wordsT_len r fun x hx => h x (List.mem_cons_of_mem _ hx)
    unfold wordsT at this ⊢
    rw [List.flatMap_cons, List.length_append, List.length_append]
    simp only [List.length_cons, List.length_nil]; omega
theorem words_l (v1 : D) (v5 : List D) (v36 : List D) (v37 v38 : Int) (l : List D) (hn : l.length ≤ 1000000) (hw : Nums l) (κ : (D × List D × Unit × ByteArray × List D × Int × Int) → Option (ByteArray × Int)) : ∀ (n j k : Nat) (s : List UInt8), l.length - j ≤ n → n < k → j ≤ l.length → s.length ≤ 1000 + j * 21 →
    Gocode_Text.l4182842 k v1 v5 () (toD s) v36 v37 v38 l (l.length : Int) (j : Int) κ = κ (v1, v5, (), toD (s ++ wordsT (l.drop j)), v36, v37, v38) := by
  intro n
  induction n with
  | zero =>
    intro j k s h1 h2 h3 h4
    obtain ⟨k, rfl⟩ : ∃ m, k = m + 1 := ⟨k - 1, by omega⟩
    rw [Gocode_Text.l4182842, decide_eq_false (by omega), cond_false, List.drop_eq_nil_of_le (by omega)]
    simp [wordsT]
  | succ n ih =>
    intro j k s h1 h2 h3 h4
    obtain ⟨k, rfl⟩ : ∃ m, k = m + 1 := ⟨k - 1, by omega⟩
    rw [Gocode_Text.l4182842]
    by_cases h : j < l.length
    · have hb := hw _ (rd_mem h)
      have hl := (dec_f _ hb).2
      rw [decide_eq_true (by omega), cond_true, gd_pos (inB_pos (by omega)), toNat_nat, itoa_f _ hb, Option.bind_some, str_sp, gd_pos (sz_okB (by rw [toDs, toDs]; simp only [List.length_singleton]; omega)), app_arr, gd_pos (sz_okB (by rw [toDs, toDs, List.length_append]; simp only [List.length_singleton]; omega)), app_arr, w_succ _ (by omega), ih (j + 1) k _ (by omega) (by omega) (by omega) (by rw [List.length_append, List.length_append]; simp only [List.length_singleton]; omega), drop_rd l j h]
      simp [wordsT]
    · rw [decide_eq_false (by omega), cond_false, List.drop_eq_nil_of_le (by omega)]
      simp [wordsT]
theorem rwordsT_l (v1 : D) (v8 : Int) (d : D) (hn : d.l2.length ≤ 1000000) (hw : Nums d.l2) (κ : (D × ByteArray × Int) → Option (ByteArray × Int)) : ∀ (n j k : Nat) (s : List UInt8), d.l2.length - j ≤ n → n < k → j ≤ d.l2.length → s.length ≤ 1000000000000 + j * 21 →
    Gr06_Text.l518458 k v1 (toD s) v8 d (j : Int) κ = κ (v1, toD (s ++ wordsT (d.l2.drop j)), v8) := by
  intro n
  induction n with
  | zero =>
    intro j k s h1 h2 h3 h4
    obtain ⟨k, rfl⟩ : ∃ m, k = m + 1 := ⟨k - 1, by omega⟩
    rw [Gr06_Text.l518458, decide_eq_false (by simp only [D.l2] at *; omega), cond_false, List.drop_eq_nil_of_le (by omega)]
    simp [wordsT]
  | succ n ih =>
    intro j k s h1 h2 h3 h4
    obtain ⟨k, rfl⟩ : ∃ m, k = m + 1 := ⟨k - 1, by omega⟩
    rw [Gr06_Text.l518458]
    by_cases h : j < d.l2.length
    · have hb := hw _ (rd_mem h)
      have hl := dec_f _ hb
      have hl2 := hl.2
      rw [decide_eq_true (show (j : Int) < (((d.cell 2).list).length : Nat) by show (j : Int) < (d.l2.length : Nat); omega), cond_true, gd_pos (inB_pos (show 0 ≤ (j : Int) ∧ (j : Int) < (d.l2.length : Nat) by omega)), toNat_nat, hl.1, Option.bind_some, str_sp, gd_pos (sz_okB (by rw [toDs, toDs]; simp only [List.length_singleton]; omega)), app_arr, gd_pos (sz_okB (by rw [toDs, toDs, List.length_append]; simp only [List.length_singleton]; omega)), app_arr, w_succ _ (by omega), ih (j + 1) k _ (by omega) (by omega) (by omega) (by rw [List.length_append, List.length_append]; simp only [List.length_singleton]; omega), drop_rd d.l2 j h]
      simp [wordsT]
    · rw [decide_eq_false (show ¬ (j : Int) < (((d.cell 2).list).length : Nat) by show ¬ (j : Int) < (d.l2.length : Nat); omega), cond_false, List.drop_eq_nil_of_le (by omega)]
      simp [wordsT]
/-! ### Areas -/
def areaT (d : D) : List UInt8 := if d.b1 then [116, 101, 120, 116, 32] ++ ((quoteR d.s0).1.data.toList ++ [10]) else [119, 111, 114, 100, 115] ++ (wordsT d.l2 ++ [10])
def areasT (l : List D) : List UInt8 := l.flatMap areaT
structure AreaOk (d : D) : Prop where
  s : d.s0.size ≤ 1000000
  q : (quoteR d.s0).1.size ≤ 300
  n : d.l2.length ≤ 1000000
  w : Nums d.l2
theorem area_len {d : D} (h : AreaOk d) : (areaT d).length ≤ 22000000 := by
  have := wordsT_len _ h.w
  have h1 := h.n
  have h2 := h.q
  unfold areaT
  split
  · rw [List.length_append, List.length_append, data_len]; simp only [List.length_cons, List.length_nil]; omega
  · rw [List.length_append, List.length_append]; simp only [List.length_cons, List.length_nil]; omega
theorem quoteR_arr (s : ByteArray) : (quoteR s).1 = toD (quoteR s).1.data.toList := arr_str _
theorem str_text : str7465787420 = toD [116, 101, 120, 116, 32] := rfl
theorem str_words : str776f726473 = toD [119, 111, 114, 100, 115] := rfl
theorem areas_l (v1 : D) (l : List D) (hn : l.length ≤ 2000) (hw : ∀ d ∈ l, AreaOk d) (κ : (D × List D × Unit) → Option (ByteArray × Int)) : ∀ (n i k : Nat) (acc : List UInt8), l.length - i ≤ n → n < k → i ≤ l.length → acc.length ≤ 1000 + i * 22000000 →
    Gocode_Text.l2042 k v1 (bD acc) () l (l.length : Int) (i : Int) κ = κ (v1, bD (acc ++ areasT (l.drop i)), ()) := by
  intro n
  induction n with
  | zero =>
    intro i k acc h1 h2 h3 h4
    obtain ⟨k, rfl⟩ : ∃ m, k = m + 1 := ⟨k - 1, by omega⟩
    rw [Gocode_Text.l2042, decide_eq_false (by omega), cond_false, List.drop_eq_nil_of_le (by omega)]
    simp [areasT]
  | succ n ih =>
    intro i k acc h1 h2 h3 h4
    obtain ⟨k, rfl⟩ : ∃ m, k = m + 1 := ⟨k - 1, by omega⟩
    have hN := le_NN
    rw [Gocode_Text.l2042]
    by_cases h : i < l.length
    · have ok := hw _ (rd_mem h)
      have hal := area_len ok
      have hq := ok.q
      have hs := ok.s
      have hn2 := ok.n
      have hwl := wordsT_len _ ok.w
      have hI := ih (i + 1) k (acc ++ areaT (rd l i)) (by omega) (by omega) (by omega) (by rw [List.length_append]; omega)
      have fin : Gocode_Text.l2042 k v1 (bD (acc ++ areaT (rd l i))) () l (l.length : Int) ((i + 1 : Nat) : Int) κ = κ (v1, bD (acc ++ areasT (l.drop i)), ()) := by
        rw [hI, drop_rd l i h, areasT, areasT, List.flatMap_cons, List.append_assoc]
      rw [decide_eq_true (by omega), cond_true, gd_pos (inB_pos (by omega)), toNat_nat, w_succ _ (by omega)]
      cases hb : ((rd l i).cell 1).bool with
      | true =>
        have ea : areaT (rd l i) = [116, 101, 120, 116, 32] ++ ((quoteR (rd l i).s0).1.data.toList ++ [10]) := by
          unfold areaT; rw [if_pos (show (rd l i).b1 = true from hb)]
        have hql : (quoteR (rd l i).s0).1.data.toList.length = (quoteR (rd l i).s0).1.size := data_len _
        rw [cond_true, quoteB_f _ (by simp only [D.s0] at hs; omega), Option.bind_some, quoteR_arr, str_text, gd_pos (sz_okB (by rw [toDs, toDs]; simp only [D.s0] at hql hq; simp only [List.length_cons, List.length_nil]; omega)), app_arr, text1_f _ _ (by rw [List.length_append]; simp only [D.s0] at hql hq; simp only [List.length_cons, List.length_nil]; omega), Option.bind_some]
        rw [ea] at fin
        simpa using fin
      | false =>
        have ea : areaT (rd l i) = [119, 111, 114, 100, 115] ++ (wordsT (rd l i).l2 ++ [10]) := by
          unfold areaT; rw [if_neg (show ¬ (rd l i).b1 = true by rw [show (rd l i).b1 = false from hb]; decide)]
        rw [cond_false, str_words, show (0 : Int) = ((0 : Nat) : Int) from rfl, words_l v1 _ _ _ _ (rd l i).l2 hn2 ok.w _ (rd l i).l2.length 0 NN _ (by omega) (by omega) (by omega) (by simp), List.drop_zero]
        simp only
        rw [text1_f _ _ (by rw [List.length_append]; simp only [List.length_cons, List.length_nil]; omega), Option.bind_some, w_succ _ (by omega)]
        rw [ea] at fin
        simpa using fin
    · rw [decide_eq_false (by omega), cond_false, List.drop_eq_nil_of_le (by omega)]
      simp [areasT]
theorem rareas_l (c : D) (hn : c.data.length ≤ 2000) (hw : ∀ d ∈ c.data, AreaOk d) (κ : (D × ByteArray) → Option (ByteArray × Int)) : ∀ (n i k : Nat) (acc : List UInt8), c.data.length - i ≤ n → n < k → i ≤ c.data.length → acc.length ≤ 1000 + i * 22000000 →
    Gr06_Text.l506 k c (toD acc) (i : Int) κ = κ (c, toD (acc ++ areasT (c.data.drop i))) := by
  intro n
  induction n with
  | zero =>
    intro i k acc h1 h2 h3 h4
    obtain ⟨k, rfl⟩ : ∃ m, k = m + 1 := ⟨k - 1, by omega⟩
    rw [Gr06_Text.l506, decide_eq_false (show ¬ (i : Int) < (((c.cell 1).list).length : Nat) by show ¬ (i : Int) < (c.data.length : Nat); omega), cond_false, List.drop_eq_nil_of_le (by omega)]
    simp [areasT]
  | succ n ih =>
    intro i k acc h1 h2 h3 h4
    obtain ⟨k, rfl⟩ : ∃ m, k = m + 1 := ⟨k - 1, by omega⟩
    have hN := le_NN
    rw [Gr06_Text.l506]
    by_cases h : i < c.data.length
    · have ok := hw _ (rd_mem h)
      have hal := area_len ok
      have hq := ok.q
      have hs := ok.s
      have hn2 := ok.n
      have hwl := wordsT_len _ ok.w
      have hI := ih (i + 1) k (acc ++ areaT (rd c.data i)) (by omega) (by omega) (by omega) (by rw [List.length_append]; omega)
      have fin : Gr06_Text.l506 k c (toD (acc ++ areaT (rd c.data i))) ((i + 1 : Nat) : Int) κ = κ (c, toD (acc ++ areasT (c.data.drop i))) := by
        rw [hI, drop_rd c.data i h, areasT, areasT, List.flatMap_cons, List.append_assoc]
      rw [decide_eq_true (show (i : Int) < (((c.cell 1).list).length : Nat) by show (i : Int) < (c.data.length : Nat); omega), cond_true, gd_pos (inB_pos (show 0 ≤ (i : Int) ∧ (i : Int) < (c.data.length : Nat) by omega)), toNat_nat, w_succ _ (by omega)]
      cases hb : ((rd (c.cell 1).list i).cell 1).bool with
      | true =>
        have ea : areaT (rd c.data i) = [116, 101, 120, 116, 32] ++ ((quoteR (rd c.data i).s0).1.data.toList ++ [10]) := by
          unfold areaT; rw [if_pos (show (rd c.data i).b1 = true from hb)]
        have hql : (quoteR (rd c.data i).s0).1.data.toList.length = (quoteR (rd c.data i).s0).1.size := data_len _
        have hrq : Gr02_Quote.f ((rd (c.cell 1).list i).cell 0).str = some (quoteR (rd c.data i).s0) := rquoteB_f _ (by show (rd c.data i).s0.size ≤ _; omega)
        rw [cond_true, hrq, Option.bind_some, quoteR_arr, str_text, str_nl, gd_pos (sz_okB (by rw [toDs, toDs]; simp only [List.length_cons, List.length_nil]; omega)), app_arr, gd_pos (sz_okB (by rw [toDs, toDs, List.length_append]; simp only [List.length_cons, List.length_nil]; omega)), app_arr, gd_pos (sz_okB (by rw [toDs, toDs, List.length_append, List.length_append]; simp only [List.length_cons, List.length_nil]; omega)), app_arr]
        rw [ea] at fin
        simpa using fin
      | false =>
        have ea : areaT (rd c.data i) = [119, 111, 114, 100, 115] ++ (wordsT (rd c.data i).l2 ++ [10]) := by
          unfold areaT; rw [if_neg (show ¬ (rd c.data i).b1 = true by rw [show (rd c.data i).b1 = false from hb]; decide)]
        rw [cond_false, str_words, str_nl, gd_pos (sz_okB (by rw [toDs, toDs]; simp only [List.length_cons, List.length_nil]; omega)), app_arr, show (0 : Int) = ((0 : Nat) : Int) from rfl]
        refine (rwordsT_l c _ (rd c.data i) hn2 ok.w _ (rd c.data i).l2.length 0 NN _ (by omega) (by omega) (by omega) (by rw [List.length_append]; simp only [List.length_cons, List.length_nil]; omega)).trans ?_
        rw [List.drop_zero]
        simp only
        rw [gd_pos (sz_okB (by rw [toDs, toDs, List.length_append, List.length_append]; simp only [List.length_cons, List.length_nil]; omega)), app_arr, w_succ _ (by omega)]
        rw [ea] at fin
        simpa using fin
    · rw [decide_eq_false (show ¬ (i : Int) < (((c.cell 1).list).length : Nat) by show ¬ (i : Int) < (c.data.length : Nat); omega), cond_false, List.drop_eq_nil_of_le (by omega)]
      simp [areasT]
end Go.Pv

namespace Go.Pv
set_option maxRecDepth 20000
def entT (e : D) : List UInt8 := [101, 110, 116, 114, 121, 32] ++ (numL e.f0 ++ ([32] ++ (numL e.f1 ++ [10])))
def entsT (l : List D) : List UInt8 := l.flatMap entT
def EntOk (e : D) : Prop := (-1000000000000 ≤ e.f0 ∧ e.f0 ≤ 1000000000000) ∧ (-1000000000000 ≤ e.f1 ∧ e.f1 ≤ 1000000000000)
theorem ent_len {e : D} (h : EntOk e) : (entT e).length ≤ 50 := by
  have h1 := (dec_f _ h.1).2
  have h2 := (dec_f _ h.2).2
  unfold entT
  simp only [List.length_append, List.length_cons, List.length_nil]; omega
theorem str_entry : str656e74727920 = toD [101, 110, 116, 114, 121, 32] := rfl
theorem entsT_l (v1 : D) (l : List D) (hn : l.length ≤ 1000000) (hw : ∀ d ∈ l, EntOk d) (κ : (D × List D × Unit) → Option (ByteArray × Int)) : ∀ (n i k : Nat) (acc : List UInt8), l.length - i ≤ n → n < k → i ≤ l.length → acc.length ≤ 100000000000 + i * 50 →
    Gocode_Text.l4090 k v1 (bD acc) () l (l.length : Int) (i : Int) κ = κ (v1, bD (acc ++ entsT (l.drop i)), ()) := by
  intro n
  induction n with
  | zero =>
    intro i k acc h1 h2 h3 h4
    obtain ⟨k, rfl⟩ : ∃ m, k = m + 1 := ⟨k - 1, by omega⟩
    rw [Gocode_Text.l4090, decide_eq_false (by omega), cond_false, List.drop_eq_nil_of_le (by omega)]
    simp [entsT]
  | succ n ih =>
    intro i k acc h1 h2 h3 h4
    obtain ⟨k, rfl⟩ : ∃ m, k = m + 1 := ⟨k - 1, by omega⟩
    rw [Gocode_Text.l4090]
    by_cases h : i < l.length
    · have ok := hw _ (rd_mem h)
      have hal := ent_len ok
      have d1 := (dec_f _ ok.1).2
      have d2 := (dec_f _ ok.2).2
      have i1 := itoa_f _ ok.1
      have i2 := itoa_f _ ok.2
      have hI := ih (i + 1) k (acc ++ entT (rd l i)) (by omega) (by omega) (by omega) (by rw [List.length_append]; omega)
      have fin : Gocode_Text.l4090 k v1 (bD (acc ++ entT (rd l i))) () l (l.length : Int) ((i + 1 : Nat) : Int) κ = κ (v1, bD (acc ++ entsT (l.drop i)), ()) := by
        rw [hI, drop_rd l i h, entsT, entsT, List.flatMap_cons, List.append_assoc]
      rw [decide_eq_true (by omega), cond_true, gd_pos (inB_pos (by omega)), toNat_nat, w_succ _ (by omega), i1, Option.bind_some, str_entry, str_sp, gd_pos (sz_okB (by rw [toDs, toDs]; simp only [List.length_cons, List.length_nil]; omega)), app_arr, gd_pos (sz_okB (by rw [toDs, toDs]; simp only [List.length_append, List.length_cons, List.length_nil]; omega)), app_arr, i2, Option.bind_some, gd_pos (sz_okB (by rw [toDs, toDs]; simp only [List.length_append, List.length_cons, List.length_nil]; omega)), app_arr, text1_f _ _ (by simp only [List.length_append, List.length_cons, List.length_nil]; omega), Option.bind_some]
      unfold entT at fin
      simpa using fin
    · rw [decide_eq_false (by omega), cond_false, List.drop_eq_nil_of_le (by omega)]
      simp [entsT]
theorem rentsT_l (c : D) (hn : c.gl.length ≤ 1000000) (hw : ∀ d ∈ c.gl, EntOk d) (κ : (D × ByteArray) → Option (ByteArray × Int)) : ∀ (n i k : Nat) (acc : List UInt8), c.gl.length - i ≤ n → n < k → i ≤ c.gl.length → acc.length ≤ 100000000000 + i * 50 →
    Gr06_Text.l1018 k c (toD acc) (i : Int) κ = κ (c, toD (acc ++ entsT (c.gl.drop i))) := by
  intro n
  induction n with
  | zero =>
    intro i k acc h1 h2 h3 h4
    obtain ⟨k, rfl⟩ : ∃ m, k = m + 1 := ⟨k - 1, by omega⟩
    rw [Gr06_Text.l1018, decide_eq_false (show ¬ (i : Int) < (((c.cell 3).list).length : Nat) by show ¬ (i : Int) < (c.gl.length : Nat); omega), cond_false, List.drop_eq_nil_of_le (by omega)]
    simp [entsT]
  | succ n ih =>
    intro i k acc h1 h2 h3 h4
    obtain ⟨k, rfl⟩ : ∃ m, k = m + 1 := ⟨k - 1, by omega⟩
    rw [Gr06_Text.l1018]
    by_cases h : i < c.gl.length
    · have ok := hw _ (rd_mem h)
      have hal := ent_len ok
      have d1 := (dec_f _ ok.1).2
      have d2 := (dec_f _ ok.2).2
      have i1 := (dec_f _ ok.1).1
      have i2 := (dec_f _ ok.2).1
      have hI := ih (i + 1) k (acc ++ entT (rd c.gl i)) (by omega) (by omega) (by omega) (by rw [List.length_append]; omega)
      have fin : Gr06_Text.l1018 k c (toD (acc ++ entT (rd c.gl i))) ((i + 1 : Nat) : Int) κ = κ (c, toD (acc ++ entsT (c.gl.drop i))) := by
        rw [hI, drop_rd c.gl i h, entsT, entsT, List.flatMap_cons, List.append_assoc]
      have hin : inB (i : Int) ((c.cell 3).list).length = true := inB_pos (show 0 ≤ (i : Int) ∧ (i : Int) < (c.gl.length : Nat) by omega)
      rw [decide_eq_true (show (i : Int) < (((c.cell 3).list).length : Nat) by show (i : Int) < (c.gl.length : Nat); omega), cond_true, gd_pos hin, toNat_nat, w_succ _ (by omega), i1, Option.bind_some, str_entry, str_sp, str_nl, gd_pos (sz_okB (by rw [toDs, toDs]; simp only [List.length_cons, List.length_nil]; omega)), app_arr, gd_pos (sz_okB (by rw [toDs, toDs]; simp only [List.length_append, List.length_cons, List.length_nil]; omega)), app_arr, gd_pos hin, i2, Option.bind_some, gd_pos (sz_okB (by rw [toDs, toDs]; simp only [List.length_append, List.length_cons, List.length_nil]; omega)), app_arr, gd_pos (sz_okB (by rw [toDs, toDs]; simp only [List.length_append, List.length_cons, List.length_nil]; omega)), app_arr, gd_pos (sz_okB (by rw [toDs, toDs]; simp only [List.length_append, List.length_cons, List.length_nil]; omega)), app_arr]
      unfold entT at fin
      simpa using fin
    · rw [decide_eq_false (show ¬ (i : Int) < (((c.cell 3).list).length : Nat) by show ¬ (i : Int) < (c.gl.length : Nat); omega), cond_false, List.drop_eq_nil_of_le (by omega)]
      simp [entsT]
/-! ### Instructions -/
def opsT (l : List Op) : List UInt8 := l.flatMap fun o => lineL o ++ [10]
theorem op_range {o : Op} (h : OpNum o) : 1 ≤ o.f0 ∧ o.f0 < 31 := by
  first | exact ⟨h.1, h.2.1⟩ | exact h.1 | exact ⟨h.lo, h.hi⟩
theorem opsT_l (l : List Op) (hn : l.length ≤ 1000000) (hw : ∀ d ∈ l, OpNum d) (κ : (List D × Unit) → Option (ByteArray × Int)) : ∀ (n i k : Nat) (acc : List UInt8), l.length - i ≤ n → n < k → i ≤ l.length → acc.length ≤ 200000000000 + i * 61 →
    Gocode_Text.l16378 k (bD acc) () kindTab l (l.length : Int) (i : Int) κ = κ (bD (acc ++ opsT (l.drop i)), ()) := by
  intro n
  induction n with
  | zero =>
    intro i k acc h1 h2 h3 h4
    obtain ⟨k, rfl⟩ : ∃ m, k = m + 1 := ⟨k - 1, by omega⟩
    rw [Gocode_Text.l16378, decide_eq_false (by omega), cond_false, List.drop_eq_nil_of_le (by omega)]
    simp [opsT]
  | succ n ih =>
    intro i k acc h1 h2 h3 h4
    obtain ⟨k, rfl⟩ : ∃ m, k = m + 1 := ⟨k - 1, by omega⟩
    rw [Gocode_Text.l16378]
    by_cases h : i < l.length
    · have ok := hw _ (rd_mem h)
      have hr := op_range ok
      have hal := line_len ok
      have hI := ih (i + 1) k (acc ++ (lineL (rd l i) ++ [10])) (by omega) (by omega) (by omega) (by rw [List.length_append, List.length_append]; simp only [List.length_cons, List.length_nil]; omega)
      rw [decide_eq_true (by omega), cond_true, gd_pos (inB_pos (by omega)), toNat_nat, w_succ _ (by omega), gd_pos (Bool.and_eq_true_iff.2 ⟨inB_pos (show 0 ≤ (rd l i).f0 ∧ (rd l i).f0 < (31 : Nat) by omega), inB_pos (show 0 ≤ (rd l i).f0 ∧ (rd l i).f0 < (kindTab.length : Nat) by rw [kindTab_len]; omega)⟩), gd_pos (show Nat.blt ((rd l i).f0).toNat kindTab.length = true by rw [kindTab_len]; exact Nat.ble_eq_true_of_le (by show (rd l i).f0.toNat + 1 ≤ 31; omega))]
      rw [show Gocode_written.f (rd l i) (rd kindTab ((rd l i).cell 0).int.toNat) = some (toD (lineL (rd l i))) from written_f ok, Option.bind_some, text1_f _ _ (by omega), Option.bind_some, hI, drop_rd l i h, opsT, opsT, List.flatMap_cons, List.append_assoc]
    · rw [decide_eq_false (by omega), cond_false, List.drop_eq_nil_of_le (by omega)]
      simp [opsT]
theorem ropsT_l (c : D) (v7 : ByteArray) (hn : c.ops.length ≤ 1000000) (hw : ∀ d ∈ c.ops, OpNum d) (κ : (ByteArray × List D) → Option (ByteArray × Int)) : ∀ (n i k : Nat) (acc : List UInt8), c.ops.length - i ≤ n → n < k → i ≤ c.ops.length → acc.length ≤ i * 61 →
    Gr06_Text.l4090 k c v7 (bD acc) (i : Int) κ = κ (v7, bD (acc ++ opsT (c.ops.drop i))) := by
  intro n
  induction n with
  | zero =>
    intro i k acc h1 h2 h3 h4
    obtain ⟨k, rfl⟩ : ∃ m, k = m + 1 := ⟨k - 1, by omega⟩
    rw [Gr06_Text.l4090, decide_eq_false (show ¬ (i : Int) < (((c.cell 2).list).length : Nat) by show ¬ (i : Int) < (c.ops.length : Nat); omega), cond_false, List.drop_eq_nil_of_le (by omega)]
    simp [opsT]
  | succ n ih =>
    intro i k acc h1 h2 h3 h4
    obtain ⟨k, rfl⟩ : ∃ m, k = m + 1 := ⟨k - 1, by omega⟩
    rw [Gr06_Text.l4090]
    by_cases h : i < c.ops.length
    · have ok := hw _ (rd_mem h)
      have hal := line_len ok
      have hI := ih (i + 1) k (acc ++ (lineL (rd c.ops i) ++ [10])) (by omega) (by omega) (by omega) (by rw [List.length_append, List.length_append]; simp only [List.length_cons, List.length_nil]; omega)
      rw [decide_eq_true (show (i : Int) < (((c.cell 2).list).length : Nat) by show (i : Int) < (c.ops.length : Nat); omega), cond_true, gd_pos (inB_pos (show 0 ≤ (i : Int) ∧ (i : Int) < (c.ops.length : Nat) by omega)), toNat_nat, w_succ _ (by omega), show Gr06_line.f (rd ((c.cell 2).list) i) = some (toD (lineL (rd c.ops i) ++ [10])) from rline_f ok, Option.bind_some, ubytes_bD, gd_pos (Nat.ble_eq_true_of_le (show (bD acc).length + (bD (lineL (rd c.ops i) ++ [10])).length ≤ lim by rw [show (bD acc).length = acc.length from List.length_map _, show (bD (lineL (rd c.ops i) ++ [10])).length = (lineL (rd c.ops i) ++ [10]).length from List.length_map _, List.length_append]; simp only [List.length_cons, List.length_nil]; unfold lim; omega)), show bD acc ++ bD (lineL (rd c.ops i) ++ [10]) = bD (acc ++ (lineL (rd c.ops i) ++ [10])) from (List.map_append ..).symm, hI, drop_rd c.ops i h, opsT, opsT, List.flatMap_cons, List.append_assoc]
    · rw [decide_eq_false (show ¬ (i : Int) < (((c.cell 2).list).length : Nat) by show ¬ (i : Int) < (c.ops.length : Nat); omega), cond_false, List.drop_eq_nil_of_le (by omega)]
      simp [opsT]
end Go.Pv

namespace Go.Pv
set_option maxRecDepth 20000
theorem quoteR_size (s : ByteArray) : (quoteR s).1.size ≤ 300 := by
  unfold quoteR
  split
  · exact Nat.zero_le _
  · rename_i b hb
    split
    · have h1 := quoteL_len _ _ hb
      rw [data_len] at h1
      have e : ((34 :: b ++ [34] : List UInt8).toArray : Array UInt8).size = b.length + 2 := by simp
      show ((34 :: b ++ [34] : List UInt8).toArray : Array UInt8).size ≤ 300
      omega
    · exact Nat.zero_le _
theorem nums_of {l : List D} (h : anyNarrow l = false) : Nums l := by
  intro d hd
  have a := List.any_eq_false.1 h d hd
  simp only [Bool.not_eq_true', Bool.not_eq_false'] at a
  have b : wideB d.int = true := by simpa using a
  unfold wideB inIv at b
  simp only [Bool.and_eq_true, decide_eq_true_eq] at b
  omega
theorem area_ok {d : D} (h : areaB d = true) (h1 : d.s0.size ≤ 1000000) (h2 : d.l2.length ≤ 1000000) : AreaOk d := by
  refine ⟨h1, quoteR_size _, h2, ?_⟩
  unfold areaB at h
  split at h
  · have := (Bool.and_eq_true_iff.1 h).2
    rw [of_decide_eq_true this]
    intro d hd
    cases hd
  · have := (Bool.and_eq_true_iff.1 h).2
    exact nums_of (by simpa using this)
theorem ents_ok : ∀ (l : List D) (seen : List Int) (p : Int), p ≤ 1000000 → entriesL l seen p = true → ∀ d ∈ l, EntOk d
  | [], _, _, _, _ => fun d hd => by cases hd
  | e :: es, seen, p, hp, h => by
    unfold entriesL at h
    split at h
    · rename_i hc
      unfold inIv at hc
      simp only [Bool.and_eq_true, decide_eq_true_eq] at hc
      intro d hd
      rcases List.mem_cons.1 hd with rfl | hd
      · unfold EntOk; omega
      · exact ents_ok es _ p hp h d hd
    · cases h
structure TextOk (c : D) : Prop where
  s : c.s0.size ≤ 1000000
  d : c.data.length ≤ 2000
  a : ∀ d ∈ c.data, AreaOk d
  g : c.gl.length ≤ 1000000
  e : ∀ d ∈ c.gl, EntOk d
  o : c.ops.length ≤ 1000000
  n : ∀ o ∈ c.ops, OpNum o
theorem text_ok {c : D} (h : Valid c) : TextOk c := by
  have hl := h.lim
  have hc := h.coded
  unfold codedB at hc
  simp only [Bool.and_eq_true, decide_eq_true_eq] at hc
  have ha : areasB c = true := by
    first | exact hc.1.2 | exact hc.2.1
  have ho : c.ops.all (opOk c) = true := by
    first | exact hc.1.1.1.1.2 | exact hc.1.1.1.2
  unfold areasB at ha
  rw [Bool.and_eq_true] at ha
  refine ⟨h.fine.n, hl.2.2.2.1, fun d hd => area_ok (List.all_eq_true.1 ha.1 d hd) (h.fine.w d hd).1 (h.fine.w d hd).2, h.fine.g, ents_ok _ _ _ (by omega) ha.2, h.fine.o, fun o hm => op_num (List.all_eq_true.1 ho o hm) (by omega) (by omega) (by omega)⟩
theorem areasT_len : ∀ (l : List D), (∀ d ∈ l, AreaOk d) → (areasT l).length ≤ l.length * 22000000
  | [], _ => Nat.zero_le _
  | d :: r, h => by
    have h1 := area_len (h d (List.mem_cons_self ..))
    have h2 := areasT_len r fun x hx => h x (List.mem_cons_of_mem _ hx)
    unfold areasT at h2 ⊢
    rw [List.flatMap_cons, List.length_append, List.length_cons]; omega
theorem entsT_len : ∀ (l : List D), (∀ d ∈ l, EntOk d) → (entsT l).length ≤ l.length * 50
  | [], _ => Nat.zero_le _
  | d :: r, h => by
    have h1 := ent_len (h d (List.mem_cons_self ..))
    have h2 := entsT_len r fun x hx => h x (List.mem_cons_of_mem _ hx)
    unfold entsT at h2 ⊢
    rw [List.flatMap_cons, List.length_append, List.length_cons]; omega
theorem opsT_len : ∀ (l : List Op), (∀ d ∈ l, OpNum d) → (opsT l).length ≤ l.length * 61
  | [], _ => Nat.zero_le _
  | d :: r, h => by
    have h1 := line_len (h d (List.mem_cons_self ..))
    have h2 := opsT_len r fun x hx => h x (List.mem_cons_of_mem _ hx)
    unfold opsT at h2 ⊢
    rw [List.flatMap_cons, List.length_append, List.length_append, List.length_cons]
    simp only [List.length_cons, List.length_nil]; omega
def textT (c : D) : List UInt8 := [99, 111, 100, 101, 32] ++ ((quoteR c.s0).1.data.toList ++ ([10] ++ (areasT c.data ++ (entsT c.gl ++ (opsT c.ops ++ [101, 110, 100, 10])))))
theorem str_code : str636f646520 = toD [99, 111, 100, 101, 32] := rfl
theorem str_end : str656e64 = toD [101, 110, 100] := rfl
theorem str_endl : str656e640a = toD [101, 110, 100, 10] := rfl
def textR (c : D) : ByteArray × Int := if checkI c = 0 then (toD (textT c), 0) else (strNil, checkI c)
theorem text_f (c : D) (hf : Fine c) : Gocode_Text.f c = some (textR c) := by
  have hN := le_NN
  unfold Gocode_Text.f textR
  rw [check_f c hf, Option.bind_some]
  by_cases h : checkI c = 0
  · have t := text_ok (check_ok hf h)
    have hq := quoteR_size c.s0
    have hql : (quoteR c.s0).1.data.toList.length = (quoteR c.s0).1.size := data_len _
    have la := areasT_len _ t.a
    have le := entsT_len _ t.e
    have lo := opsT_len _ t.n
    have td := t.d
    have tg := t.g
    have tops := t.o
    have hA := fun κ => areas_l c c.data t.d t.a κ c.data.length 0 NN ([99, 111, 100, 101, 32] ++ (quoteR c.s0).1.data.toList ++ [10]) (by omega) (by omega) (by omega) (by simp only [List.length_append, List.length_cons, List.length_nil]; omega)
    have hE := fun κ => entsT_l c c.gl t.g t.e κ c.gl.length 0 NN ([99, 111, 100, 101, 32] ++ (quoteR c.s0).1.data.toList ++ [10] ++ areasT c.data) (by omega) (by omega) (by omega) (by simp only [List.length_append, List.length_cons, List.length_nil]; omega)
    have hO := fun κ => opsT_l c.ops t.o t.n κ c.ops.length 0 NN ([99, 111, 100, 101, 32] ++ (quoteR c.s0).1.data.toList ++ [10] ++ areasT c.data ++ entsT c.gl) (by omega) (by omega) (by omega) (by simp only [List.length_append, List.length_cons, List.length_nil]; omega)
    rw [List.drop_zero] at hA hE hO
    rw [if_pos h, show (checkI c != 0) = false by rw [h]; rfl, cond_false, show Glex_Quote.f (c.cell 0).str = some (quoteR c.s0) from quoteB_f _ (show c.s0.size ≤ 1048576 by have := t.s; omega), Option.bind_some, quoteR_arr, str_code, gd_pos (sz_okB (by rw [toDs, toDs]; simp only [List.length_cons, List.length_nil]; omega)), app_arr]
    rw [show ([] : List D) = bD [] from rfl, text1_f _ _ (by simp only [List.length_append, List.length_cons, List.length_nil]; omega), Option.bind_some, List.nil_append]
    refine (hA _).trans ?_
    refine (hE _).trans ?_
    simp only
    rw [kinds_f, Option.bind_some, gd_pos (by rw [kindTab_len]; rfl)]
    refine (hO _).trans ?_
    simp only
    rw [str_end, text1_f _ _ (by simp only [List.length_append, List.length_cons, List.length_nil]; omega), Option.bind_some, got_f, Option.bind_some]
    simp [textT]
  · rw [if_neg h, show (checkI c != 0) = true by simpa using h, cond_true]
theorem fin_r (A B : List UInt8) (h : A.length + B.length ≤ 1000000000000) : gd (decide ((toD A).size + (bstr (bD B)).size ≤ maxS)) (gd (decide ((toD A ++ bstr (bD B)).size + str656e640a.size ≤ maxS)) (some ((toD A ++ bstr (bD B)) ++ str656e640a, (0 : Int)))) = some (toD (A ++ B ++ [101, 110, 100, 10]), 0) := by
  rw [bstr_bD, gd_pos (sz_okB (by rw [toDs, toDs]; omega)), app_arr, str_endl, gd_pos (sz_okB (by rw [toDs, toDs]; simp only [List.length_append, List.length_cons, List.length_nil]; omega)), app_arr]
theorem rtext_f (c : D) (hf : Fine c) : Gr06_Text.f c = some (textR c) := by
  have hN := le_NN
  unfold Gr06_Text.f textR
  rw [check_ref c hf, Option.bind_some]
  by_cases h : checkI c = 0
  · have t := text_ok (check_ok hf h)
    have hq := quoteR_size c.s0
    have hql : (quoteR c.s0).1.data.toList.length = (quoteR c.s0).1.size := data_len _
    have la := areasT_len _ t.a
    have le := entsT_len _ t.e
    have lo := opsT_len _ t.n
    have td := t.d
    have tg := t.g
    have tops := t.o
    have hA := fun κ => rareas_l c t.d t.a κ c.data.length 0 NN ([99, 111, 100, 101, 32] ++ (quoteR c.s0).1.data.toList ++ [10]) (by omega) (by omega) (by omega) (by simp only [List.length_append, List.length_cons, List.length_nil]; omega)
    have hE := fun κ => rentsT_l c t.g t.e κ c.gl.length 0 NN ([99, 111, 100, 101, 32] ++ (quoteR c.s0).1.data.toList ++ [10] ++ areasT c.data) (by omega) (by omega) (by omega) (by simp only [List.length_append, List.length_cons, List.length_nil]; omega)
    have hO := fun v κ => ropsT_l c v t.o t.n κ c.ops.length 0 NN [] (by omega) (by omega) (by omega) (Nat.zero_le _)
    rw [List.drop_zero] at hA hE hO
    rw [if_pos h, show (checkI c != 0) = false by rw [h]; rfl, cond_false, show Gr02_Quote.f (c.cell 0).str = some (quoteR c.s0) from rquoteB_f _ (show c.s0.size ≤ 1048576 by have := t.s; omega), Option.bind_some, quoteR_arr, str_code, str_nl, gd_pos (sz_okB (by rw [toDs, toDs]; simp only [List.length_cons, List.length_nil]; omega)), app_arr, gd_pos (sz_okB (by rw [toDs, toDs]; simp only [List.length_append, List.length_cons, List.length_nil]; omega)), app_arr]
    refine (hA _).trans ?_
    refine (hE _).trans ?_
    refine (hO _ _).trans ?_
    refine (fin_r _ _ (by simp only [List.length_append, List.length_cons, List.length_nil]; omega)).trans ?_
    simp [textT]
  · rw [if_neg h, show (checkI c != 0) = true by simpa using h, cond_true]
end Go.Pv

namespace Go.Pv
open Go.Proofs
set_option maxRecDepth 20000
/-! ### whole numbers that are the same -/
theorem eqints_l (l : List D) (hl : l.length ≤ 1000000) (κ : Unit → Option Bool) : ∀ (n i k : Nat), l.length - i = n → i ≤ l.length → n < k → Gr00_EqInts.l58 k l l (i : Int) κ = κ ()
  | 0, i, k, hn, hi, hk => by
    obtain ⟨k, rfl⟩ : ∃ m, k = m + 1 := ⟨k - 1, by omega⟩
    simp only [Gr00_EqInts.l58]
    rw [decide_eq_false (by omega)]
    rfl
  | n + 1, i, k, hn, hi, hk => by
    obtain ⟨k, rfl⟩ : ∃ m, k = m + 1 := ⟨k - 1, by omega⟩
    have g0 : inB (i : Int) l.length = true := inB_pos (by omega)
    simp only [Gr00_EqInts.l58, toNat_nat]
    rw [decide_eq_true (show (i : Int) < l.length by omega), cond_true, gd_pos g0, gd_pos g0, bne_self_eq_false, cond_false, w_succ i (by omega)]
    exact eqints_l l hl κ n (i + 1) k (by omega) (by omega) (by omega)
theorem eqints_self (l : List D) (hl : l.length ≤ 1000000) : Gr00_EqInts.f l l = some true := by
  unfold Gr00_EqInts.f
  rw [bne_self_eq_false, cond_false]
  exact eqints_l l hl _ l.length 0 NN (by omega) (by omega) (by have := le_NN; omega)
theorem sl_pos {n m : Nat} (k : Nat) (hk : 0 < k) (h : n * k ≤ m) : n ≤ m := Nat.le_trans (Nat.le_mul_of_pos_right n hk) h
/-- Code that came in is no larger than memory. -/
theorem wide_of {c : D} (h : Wf Tryd.prog 5 26 c.cell) : Wide c := by
  obtain ⟨s, s1, s2⟩ := wf_str (wf_struct h Tryd.underlying26 (i := 0) rfl) Tryd.underlying9
  obtain ⟨xs, x1, x2, x3⟩ := wf_slice (wf_struct h Tryd.underlying26 (i := 1) rfl) Tryd.underlying22
  obtain ⟨ys, y1, y2, y3⟩ := wf_slice (wf_struct h Tryd.underlying26 (i := 2) rfl) Tryd.underlying23
  obtain ⟨zs, z1, z2, z3⟩ := wf_slice (wf_struct h Tryd.underlying26 (i := 3) rfl) Tryd.underlying24
  have b1 : Tryd.prog.bytesOf 52 = 48 := by kernel_rfl
  have b2 : Tryd.prog.bytesOf 34 = 24 := by kernel_rfl
  have b3 : Tryd.prog.bytesOf 55 = 16 := by kernel_rfl
  have b4 : Tryd.prog.bytesOf 3 = 8 := by kernel_rfl
  have hA : isA Tryd.prog 52 = true := by kernel_rfl
  rw [b1] at x2
  rw [b2] at y2
  rw [b3] at z2
  have s1 : c.cell 0 = .s s := s1
  have x1 : c.cell 1 = .l xs := x1
  have y1 : c.cell 2 = .l ys := y1
  have z1 : c.cell 3 = .l zs := z1
  refine ⟨?_, ?_, ?_, ?_, ?_⟩
  · simp only [D.s0, s1, D.str]; exact s2
  · simp only [D.ops, y1, D.list]; exact sl_pos 24 (by decide) y2
  · simp only [D.gl, z1, D.list]; exact sl_pos 16 (by decide) z2
  · simp only [D.data, x1, D.list]; exact sl_pos 48 (by decide) x2
  · simp only [D.data, x1, D.list]
    intro d hd
    obtain ⟨-, hw⟩ := x3 d hd
    rw [hA] at hw
    obtain ⟨t, t1, t2⟩ := wf_str (wf_struct hw Tryd.underlying52 (i := 0) rfl) Tryd.underlying9
    obtain ⟨us, u1, u2, -⟩ := wf_slice (wf_struct hw Tryd.underlying52 (i := 2) rfl) Tryd.underlying35
    rw [b4] at u2
    have t1 : d.cell 0 = .s t := t1
    have u1 : d.cell 2 = .l us := u1
    refine ⟨?_, ?_⟩
    · simp only [D.s0, t1, D.str]; exact t2
    · simp only [D.l2, u1, D.list]; exact sl_pos 8 (by decide) u2
def awakeC : D := .r [.s ByteArray.empty, .l [], .l ([.r [.i 24, .i 1, .i 0], .r [.i 1, .i 65, .i 0], .r [.i 25, .i 0, .i 0]] : List D), .l [], .i 1, .i 0]
theorem awake_fine : Fine awakeC := ⟨by decide, by decide, by decide, by decide, fun d hd => by cases hd⟩
theorem awake_depths : depthsR awakeC = ([.i 0, .i 2, .i 3], 0) := by kernel_rfl
theorem awake_f : Gw06_awake.f = some true := by
  unfold Gw06_awake.f
  have h := depths_f awakeC awake_fine
  rw [awake_depths] at h
  rw [show Gocode_Depths.f (.r [.s ByteArray.empty, .l [], .l ([.r [.i 24, .i 1, .i 0], .r [.i 1, .i 65, .i 0], .r [.i 25, .i 0, .i 0]] : List D), .l [], .i 1, .i 0]) = _ from h, Option.bind_some]
  have e := eqints_self ([.i 0, .i 2, .i 3] : List D) (by decide)
  rw [show ((([.i 0, .i 2, .i 3], 0) : List D × Int).2 == 0) = true from rfl, cond_true]
  rw [show Gr00_EqInts.f ((([.i 0, .i 2, .i 3], 0) : List D × Int).1) ([.i 0, .i 2, .i 3] : List D) = some true from e]
  rfl
theorem texts_pure (c : D) (hw : Wide c) : Gw06_OcodeTexts.f c = some true := by
  obtain ⟨b, hb, hf⟩ := heavy_f c hw
  unfold Gw06_OcodeTexts.f
  rw [hb, Option.bind_some]
  cases b with
  | true => rw [cond_true, awake_f]; rfl
  | false =>
    obtain ⟨hf, -⟩ := hf rfl
    rw [cond_false, text_f c hf, Option.bind_some, rtext_f c hf, Option.bind_some]
    simp only [beq_self_eq_true, Bool.and_self, cond_true, Bool.true_and, Option.bind_some, awake_f]
end Go.Pv
