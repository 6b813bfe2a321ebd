/- What the functions answer, in plain words: the plain laws. -/
import Derived.Test.YtajlhhejblpfcaaDoorPPpF1
import Derived.Lib.Join
import Derived.Lib.IndexLaws
import Derived.Lib.ItoaNum
import Derived.Lib.SplitLaws
import Derived.Test.YtajlhhejblpfcaaDoorPPpC
set_option linter.unusedVariables false
set_option linter.unusedSimpArgs false
namespace Go.Pv
set_option maxRecDepth 20000
theorem w64 (n : Int) (h : -9223372036854775808 ≤ n ∧ n ≤ 9223372036854775807) : IntKind.i64.wrap n = n := by
  simp only [IntKind.wrap, IntKind.signed, IntKind.bits]
  simp
  omega
theorem gd_pos {R : Type} {c : Bool} {x : Option R} (h : c = true) : gd c x = x := by rw [h]; rfl
theorem inB_pos {i : Int} {n : Nat} (h : 0 ≤ i ∧ i < n) : inB i n = true := by
  unfold inB; rw [decide_eq_true h.1, decide_eq_true h.2]; rfl
theorem blt_pos {i n : Nat} (h : i < n) : Nat.blt i n = true := Nat.ble_eq_true_of_le h
theorem toNat_nat (i : Nat) : ((i : Int)).toNat = i := rfl
theorem w_succ (i : Nat) (h : (i : Int) + 1 ≤ 9223372036854775807) : IntKind.i64.wrap ((i : Int) + 1) = ((i + 1 : Nat) : Int) := by rw [w64 _ (by omega)]; simp
theorem w_add (i j : Nat) (h : (i : Int) + j ≤ 9223372036854775807) : IntKind.i64.wrap ((i : Int) + j) = ((i + j : Nat) : Int) := by rw [w64 _ (by omega)]; simp
theorem NN_pos : ∃ m, NN = m + 1 ∧ 4611686018427387903 ≤ m := ⟨NN - 1, by have := le_NN; omega, by have := le_NN; omega⟩
theorem lim_pos {n : Nat} (h : n ≤ 1099511627776) : Nat.ble n lim = true := Nat.ble_eq_true_of_le h
theorem toList_loop (bs : ByteArray) : ∀ (n i : Nat) (r : List UInt8), bs.size - i = n → ByteArray.toList.loop bs i r = r.reverse ++ bs.data.toList.drop i := by
  intro n
  induction n with
  | zero =>
    intro i r h
    unfold ByteArray.toList.loop
    rw [if_neg (by omega), List.drop_eq_nil_of_le (by have : bs.data.size = bs.size := rfl; simp; omega), List.append_nil]
  | succ n ih =>
    intro i r h
    unfold ByteArray.toList.loop
    have hi : i < bs.data.toList.length := by have : bs.data.size = bs.size := rfl; simp; omega
    rw [if_pos (by omega), ih (i + 1) _ (by omega), List.reverse_cons, List.drop_eq_getElem_cons hi, List.append_assoc]
    rw [List.singleton_append]
    have e : bs.get! i = bs.data.toList[i] := by
      show bs.data[i]! = _
      rw [getElem!_pos bs.data i (by simpa using hi)]
      exact (Array.getElem_toList (by simpa using hi)).symm
    rw [e]
theorem toList_data (bs : ByteArray) : bs.toList = bs.data.toList := by
  unfold ByteArray.toList
  rw [toList_loop bs _ 0 [] rfl]; simp
theorem data_len (s : ByteArray) : s.data.toList.length = s.size := Array.length_toList
/-- The text from a place on. -/
abbrev Lx (s : ByteArray) (p : Nat) : List UInt8 := s.data.toList.drop p
theorem Lx_len (s : ByteArray) (p : Nat) : (Lx s p).length = s.size - p := by rw [List.length_drop, data_len]
theorem Lx_nil {s : ByteArray} {p : Nat} (h : s.size ≤ p) : Lx s p = [] := List.drop_eq_nil_of_le (by rw [data_len]; exact h)
theorem Lx_cons {s : ByteArray} {p : Nat} (h : p < s.size) : ∃ c : UInt8, Lx s p = c :: Lx s (p + 1) ∧ bt s p = (c.toNat : Int) := by
  have hl : p < s.data.toList.length := by rw [data_len]; exact h
  refine ⟨s.data.toList[p], List.drop_eq_getElem_cons hl, ?_⟩
  unfold bt
  rw [List.getD_eq_getElem?_getD, List.getElem?_eq_getElem hl]; rfl
theorem ext_data (s : ByteArray) (p q : Nat) : (s.extract p q).data.toList = (Lx s p).take (q - p) := by
  have : (s.extract p q).data = s.data.extract p q := by rw [ByteArray.data_extract]
  rw [this, Array.toList_extract, List.extract_eq_take_drop]
theorem bytes_eq {a b : ByteArray} (h : a.data.toList = b.data.toList) : a = b := by
  cases a; cases b
  congr 1
  exact Array.toList_inj.1 h
theorem ext_eq (s : ByteArray) (p q : Nat) : s.extract p q = ⟨((Lx s p).take (q - p)).toArray⟩ := bytes_eq (by rw [ext_data])
theorem ext_size (s : ByteArray) (p q : Nat) (h : q ≤ s.size) : (s.extract p q).size = q - p := by
  rw [← data_len, ext_data, List.length_take, Lx_len]; omega
theorem dge (n k : Nat) : decide ((n : Int) ≥ (k : Int)) = decide (k ≤ n) := decide_eq_decide.2 (by omega)
theorem dle (n k : Nat) : decide ((n : Int) ≤ (k : Int)) = decide (n ≤ k) := decide_eq_decide.2 (by omega)
theorem dlt (n k : Nat) : decide ((n : Int) < (k : Int)) = decide (n < k) := decide_eq_decide.2 (by omega)
theorem dgt (n k : Nat) : decide ((n : Int) > (k : Int)) = decide (k < n) := decide_eq_decide.2 (by omega)
theorem beqI (n k : Nat) : ((n : Int) == (k : Int)) = (n == k) := by
  cases h : n == k with
  | true => rw [eq_of_beq h]; simp
  | false =>
    have : n ≠ k := by simpa using h
    simp only [beq_eq_false_iff_ne]; omega
abbrev toD (l : List UInt8) : ByteArray := ⟨l.toArray⟩
theorem toD_size (l : List UInt8) : (toD l).size = l.length := by
  show l.toArray.size = _
  simp
theorem toD_data (l : List UInt8) : (toD l).data.toList = l := by simp
theorem toD_eq (s : ByteArray) : toD s.data.toList = s := bytes_eq (by simp)
theorem app_data (x y : ByteArray) : (x ++ y).data.toList = x.data.toList ++ y.data.toList := by simp [ByteArray.data_append]
theorem app_size (x y : ByteArray) : (x ++ y).size = x.size + y.size := by rw [← data_len, app_data, List.length_append, data_len, data_len]
theorem toD_app (a b : List UInt8) : toD a ++ toD b = toD (a ++ b) := bytes_eq (by simp)
theorem toD_inj {a b : List UInt8} (h : toD a = toD b) : a = b := by have := congrArg (fun s => s.data.toList) h; simpa using this
theorem toD_beq (a b : List UInt8) : ((toD a).toList == (toD b).toList) = decide (a = b) := by
  rw [toList_data, toList_data, toD_data, toD_data, Bool.eq_iff_iff, beq_iff_eq, decide_eq_true_eq]
/-- Bytes as data. -/
abbrev bD (l : List UInt8) : List D := l.map fun b => .i (b.toNat : Int)
theorem bstr_bD (l : List UInt8) : bstr (bD l) = toD l := by
  unfold bstr
  show (⟨((l.map fun b => D.i (b.toNat : Int)).map fun d => UInt8.ofNat d.int.toNat).toArray⟩ : ByteArray) = _
  rw [List.map_map]
  have : ((fun d : D => UInt8.ofNat d.int.toNat) ∘ fun b : UInt8 => D.i (b.toNat : Int)) = id := by
    funext b
    show UInt8.ofNat ((b.toNat : Int)).toNat = b
    rw [toNat_nat]; exact UInt8.ofNat_toNat
  rw [this, List.map_id]
theorem ubytes_bD (l : List UInt8) : ubytes (toD l) = bD l := by
  unfold ubytes
  simp
theorem rd_map {α : Type} (f : α → D) : ∀ (l : List α) (i : Nat) (h : i < l.length), rd (l.map f) i = f l[i]
  | x :: r, 0, h => rfl
  | x :: r, i + 1, h => by rw [List.map_cons, List.getElem_cons_succ, ← rd_map f r i (by simpa using h)]; rfl
theorem rd_bD {l : List UInt8} {i : Nat} (h : i < l.length) : rd (bD l) i = .i (l[i].toNat : Int) := rd_map _ l i h
/-- A list of words as data. -/
abbrev wD (ws : List (List UInt8)) : List D := ws.map fun w => .s (toD w)
theorem wD_len (ws : List (List UInt8)) : (wD ws).length = ws.length := List.length_map _
theorem bD_len (l : List UInt8) : (bD l).length = l.length := List.length_map _
theorem rd_wD {ws : List (List UInt8)} {i : Nat} (h : i < ws.length) : (rd (wD ws) i).str = toD ws[i] := by rw [rd_map _ ws i h]; rfl
theorem wD_app (a b : List (List UInt8)) : wD a ++ wD b = wD (a ++ b) := (List.map_append ..).symm
theorem bD_app (a b : List UInt8) : bD a ++ bD b = bD (a ++ b) := (List.map_append ..).symm
theorem wD_one (w : List UInt8) : ([.s (toD w)] : List D) = wD [w] := rfl
theorem wD_take (ws : List (List UInt8)) (n : Nat) : (wD ws).take n = wD (ws.take n) := (List.map_take ..).symm
theorem wD_drop (ws : List (List UInt8)) (n : Nat) : (wD ws).drop n = wD (ws.drop n) := (List.map_drop ..).symm
theorem bD_take (l : List UInt8) (n : Nat) : (bD l).take n = bD (l.take n) := (List.map_take ..).symm
theorem bD_drop (l : List UInt8) (n : Nat) : (bD l).drop n = bD (l.drop n) := (List.map_drop ..).symm
/-- How many bytes words have. -/
def sumL (ws : List (List UInt8)) : Nat := (ws.map List.length).sum
theorem sumL_nil : sumL [] = 0 := rfl
theorem sumL_cons (w : List UInt8) (r : List (List UInt8)) : sumL (w :: r) = w.length + sumL r := by simp [sumL]
theorem sumL_app (a b : List (List UInt8)) : sumL (a ++ b) = sumL a + sumL b := by simp [sumL]
theorem sumL_mem {w : List UInt8} : ∀ {l : List (List UInt8)}, w ∈ l → w.length ≤ sumL l
  | x :: r, h => by
    rw [sumL_cons]
    rcases List.mem_cons.1 h with rfl | h
    · omega
    · have := sumL_mem h; omega
theorem sumL_take (ws : List (List UInt8)) (n : Nat) : sumL (ws.take n) ≤ sumL ws := by
  have := sumL_app (ws.take n) (ws.drop n)
  rw [List.take_append_drop] at this; omega
theorem sumL_drop (ws : List (List UInt8)) (n : Nat) : sumL (ws.drop n) ≤ sumL ws := by
  have := sumL_app (ws.take n) (ws.drop n)
  rw [List.take_append_drop] at this; omega
def manyV : Int → List (List UInt8) → Int
  | v, [] => v
  | v, w :: r => manyV (IntKind.i64.wrap (v + (w.length : Int))) r
theorem manyV_eq (M : Nat) : ∀ (r : List (List UInt8)) (v : Int), (∀ w ∈ r, w.length ≤ M) → 0 ≤ v → v + ((r.length * M : Nat) : Int) ≤ 9223372036854775807 → manyV v r = v + (sumL r : Int)
  | [], v, _, _, _ => by simp [manyV, sumL]
  | w :: r, v, h, h0, hM => by
    have hw := h w (List.mem_cons_self ..)
    have e : (w :: r).length * M = r.length * M + M := by rw [List.length_cons, Nat.succ_mul]
    rw [e] at hM
    rw [manyV, w64 _ (by omega), manyV_eq M r _ (fun x hx => h x (List.mem_cons_of_mem _ hx)) (by omega) (by omega), sumL_cons]
    omega
theorem many_l (ws : List (List UInt8)) (hn : ws.length ≤ 1000000000000000) (κ : (List D × Int) → Option Bool) : ∀ (n i k : Nat) (v : Int), ws.length - i ≤ n → n < k → i ≤ ws.length →
    Gw28_many.l58 k (wD ws) v (i : Int) κ = κ (wD ws, manyV v (ws.drop i)) := by
  intro n
  induction n with
  | zero =>
    intro i k v h1 h2 h3
    obtain ⟨k, rfl⟩ : ∃ m, k = m + 1 := ⟨k - 1, by omega⟩
    rw [Gw28_many.l58, wD_len, dlt, decide_eq_false (by omega), cond_false, List.drop_eq_nil_of_le (by omega)]; rfl
  | succ n ih =>
    intro i k v h1 h2 h3
    obtain ⟨k, rfl⟩ : ∃ m, k = m + 1 := ⟨k - 1, by omega⟩
    rw [Gw28_many.l58, wD_len, dlt]
    by_cases h : i < ws.length
    · rw [decide_eq_true h, cond_true, gd_pos (inB_pos (by omega)), toNat_nat, rd_wD h, toD_size, w_succ _ (by omega), ih (i + 1) k _ (by omega) (by omega) (by omega), List.drop_eq_getElem_cons h]; rfl
    · rw [decide_eq_false h, cond_false, List.drop_eq_nil_of_le (by omega)]; rfl
/-- Whether words are many. -/
theorem many_f (ws : List (List UInt8)) (hn : ws.length ≤ 140737488355328) (hw : ∀ w ∈ ws, w.length ≤ 140737488355328) : ∃ b, Gw28_many.f (wD ws) = some b ∧ (b = false → ws.length ≤ 500 ∧ sumL ws ≤ 5000) := by
  have hN := le_NN
  unfold Gw28_many.f
  rw [show (0 : Int) = ((0 : Nat) : Int) from rfl, many_l ws (by omega) _ ws.length 0 NN _ (by omega) (by omega) (by omega), List.drop_zero]
  refine ⟨_, rfl, fun h => ?_⟩
  simp only [wD_len, Bool.or_eq_false_iff, decide_eq_false_iff_not] at h
  have h1 : ws.length ≤ 500 := by omega
  have hm : ws.length * 140737488355328 ≤ 500 * 140737488355328 := Nat.mul_le_mul_right _ h1
  have h2 := h.2
  rw [show (((0 : Nat) : Int)) = 0 from rfl, manyV_eq 140737488355328 ws 0 hw (by omega) (by omega)] at h2
  exact ⟨h1, by omega⟩
theorem eqs_l (a b : List (List UInt8)) (hab : a.length = b.length) (hn : a.length ≤ 1000000000000000) (κ : Unit → Option Bool) : ∀ (n i k : Nat), a.length - i ≤ n → n < k → i ≤ a.length →
    Gr00_EqStrings.l58 k (wD a) (wD b) (i : Int) κ = if a.drop i = b.drop i then κ () else some false := by
  intro n
  induction n with
  | zero =>
    intro i k h1 h2 h3
    obtain ⟨k, rfl⟩ : ∃ m, k = m + 1 := ⟨k - 1, by omega⟩
    rw [Gr00_EqStrings.l58, wD_len, dlt, decide_eq_false (by omega), cond_false, List.drop_eq_nil_of_le (by omega), List.drop_eq_nil_of_le (by omega), if_pos rfl]
  | succ n ih =>
    intro i k h1 h2 h3
    obtain ⟨k, rfl⟩ : ∃ m, k = m + 1 := ⟨k - 1, by omega⟩
    rw [Gr00_EqStrings.l58, wD_len, wD_len, dlt]
    by_cases h : i < a.length
    · have hb : i < b.length := by omega
      rw [decide_eq_true h, cond_true, gd_pos (inB_pos (by omega)), gd_pos (inB_pos (by omega)), toNat_nat, rd_wD h, rd_wD hb, toD_beq, w_succ _ (by omega), ih (i + 1) k (by omega) (by omega) (by omega), List.drop_eq_getElem_cons h, List.drop_eq_getElem_cons hb]
      by_cases he : a[i] = b[i]
      · rw [decide_eq_true he, Bool.not_true, cond_false]
        by_cases hr : a.drop (i + 1) = b.drop (i + 1)
        · rw [if_pos hr, if_pos (by rw [he, hr])]
        · rw [if_neg hr, if_neg fun h => hr (List.cons.inj h).2]
      · rw [decide_eq_false he, Bool.not_false, cond_true, if_neg fun h => he (List.cons.inj h).1]
    · rw [decide_eq_false h, cond_false, List.drop_eq_nil_of_le (by omega), List.drop_eq_nil_of_le (by omega), if_pos rfl]
theorem eqs_f (a b : List (List UInt8)) (hn : a.length ≤ 1000000000000000) : Gr00_EqStrings.f (wD a) (wD b) = some (decide (a = b)) := by
  have hN := le_NN
  unfold Gr00_EqStrings.f
  rw [wD_len, wD_len]
  by_cases h : a.length = b.length
  · have : ((a.length : Int) != (b.length : Int)) = false := by rw [h]; simp
    rw [this, cond_false, show (0 : Int) = ((0 : Nat) : Int) from rfl, eqs_l a b h hn _ a.length 0 NN (by omega) (by omega) (by omega), List.drop_zero, List.drop_zero]
    by_cases he : a = b
    · rw [if_pos he, decide_eq_true he]
    · rw [if_neg he, decide_eq_false he]
  · have : ((a.length : Int) != (b.length : Int)) = true := by
      rw [bne_iff_ne]; omega
    rw [this, cond_true, decide_eq_false fun e => h (by rw [e])]
end Go.Pv

namespace Go.Pv
set_option maxRecDepth 20000
/-- A byte that stands in no word. -/
def offU (c : UInt8) : Bool := decide (c.toNat < 33) || decide (126 < c.toNat)
def latU (c : UInt8) : UInt8 := if offU c then 32 else c
def badW (w : List UInt8) : Bool := w.isEmpty || w.any offU
theorem off32 : offU 32 = true := by decide
theorem off_int (c : UInt8) : (decide ((c.toNat : Int) < 33) || decide ((c.toNat : Int) > 126)) = offU c := by
  unfold offU
  congr 1 <;> exact decide_eq_decide.2 (by omega)
theorem bD_set (l : List UInt8) (i : Nat) (c : UInt8) : (bD l).set i (.i (c.toNat : Int)) = bD (l.set i c) := (List.map_set ..).symm
theorem latin_l (κ : List D → Option ByteArray) : ∀ (n i k : Nat) (l : List UInt8), l.length ≤ 1000000000000000 → l.length - i ≤ n → n < k → i ≤ l.length →
    Gpaper_latin.l58 k (bD l) () (l.length : Int) (i : Int) κ = κ (bD (l.take i ++ (l.drop i).map latU)) := by
  intro n
  induction n with
  | zero =>
    intro i k l hl h1 h2 h3
    obtain ⟨k, rfl⟩ : ∃ m, k = m + 1 := ⟨k - 1, by omega⟩
    rw [Gpaper_latin.l58, dlt, decide_eq_false (by omega), cond_false, List.drop_eq_nil_of_le (by omega), List.take_of_length_le (by omega), List.map_nil, List.append_nil]
  | succ n ih =>
    intro i k l hl h1 h2 h3
    obtain ⟨k, rfl⟩ : ∃ m, k = m + 1 := ⟨k - 1, by omega⟩
    rw [Gpaper_latin.l58, dlt]
    by_cases h : i < l.length
    · have e1 : inB (i : Int) (bD l).length = true := inB_pos (by rw [bD_len]; omega)
      have e2 : Nat.blt (i : Int).toNat (bD l).length = true := blt_pos (by rw [bD_len, toNat_nat]; exact h)
      rw [decide_eq_true h, cond_true, gd_pos e1, gd_pos e2, toNat_nat, rd_bD h, D.int, off_int, List.drop_eq_getElem_cons h, List.map_cons]
      cases hc : offU l[i] with
      | true =>
        rw [cond_true, gd_pos e1, gd_pos (by rw [toNat_nat] at e2; exact e2), show (.i 32 : D) = .i ((32 : UInt8).toNat : Int) from rfl, bD_set, w_succ _ (by omega)]
        have hll : (l.set i 32).length = l.length := by simp
        have := ih (i + 1) k (l.set i 32) (by omega) (by omega) (by omega) (by omega)
        rw [hll] at this
        rw [this, List.take_add_one, List.take_set_of_le (Nat.le_refl _), List.getElem?_set_self h, List.drop_set_of_lt (by omega)]
        unfold latU
        rw [if_pos hc]
        simp
      | false =>
        rw [cond_false, w_succ _ (by omega), ih (i + 1) k l hl (by omega) (by omega) (by omega), List.take_add_one, List.getElem?_eq_getElem h]
        have e : latU l[i] = l[i] := by unfold latU; rw [hc]; rfl
        rw [e, Option.toList_some, List.append_assoc, List.singleton_append]
    · rw [decide_eq_false h, cond_false, List.drop_eq_nil_of_le (by omega), List.take_of_length_le (by omega), List.map_nil, List.append_nil]
theorem latin_f (l : List UInt8) (hl : l.length ≤ 140737488355328) : Gpaper_latin.f (toD l) = some (toD (l.map latU)) := by
  have hN := le_NN
  unfold Gpaper_latin.f
  rw [gd_pos (decide_eq_true (by rw [toD_size]; unfold maxS; omega)), ubytes_bD, bD_len, show (0 : Int) = ((0 : Nat) : Int) from rfl, latin_l _ l.length 0 NN l (by omega) (by omega) (by omega) (by omega), List.take_zero, List.nil_append, List.drop_zero, bstr_bD]
theorem contains_f (l : List UInt8) : Gstrings_Contains.f (toD l) str20 = some (l.contains 32) := by
  unfold Gstrings_Contains.f
  show some (decide (0 ≤ Lib.indexByte (toD l).data.toList 32)) = _
  rw [toD_data]
  congr 1
  rw [Bool.eq_iff_iff, decide_eq_true_eq, List.contains_iff_mem]
  constructor
  · intro h
    obtain ⟨o, ho⟩ : ∃ o : Nat, Lib.indexByte l 32 = o := ⟨(Lib.indexByte l 32).toNat, by omega⟩
    exact List.mem_of_getElem? (Lib.indexByte_some ho).1
  · intro h
    have h1 := Lib.indexByte_ge l 32
    rcases Int.lt_or_le (Lib.indexByte l 32) 0 with h2 | h2
    · obtain ⟨k, hk⟩ := List.getElem?_of_mem h
      exact absurd hk (Lib.indexByte_none (show Lib.indexByte l 32 = -1 by omega) k)
    · exact h2
theorem lat_same : ∀ (l : List UInt8), l.map latU = l → l.contains 32 = false → l.any offU = false
  | [], _, _ => rfl
  | c :: r, h, h2 => by
    rw [List.map_cons] at h
    obtain ⟨h3, h4⟩ := List.cons.inj h
    rw [List.contains_cons, Bool.or_eq_false_iff] at h2
    rw [List.any_cons, lat_same r h4 h2.2, Bool.or_false]
    cases hc : offU c with
    | false => rfl
    | true =>
      unfold latU at h3
      rw [if_pos hc] at h3
      rw [← h3] at h2
      exact absurd h2.1 (by decide)
theorem lat_clean : ∀ (l : List UInt8), l.any offU = false → l.map latU = l ∧ l.contains 32 = false
  | [], _ => ⟨rfl, rfl⟩
  | c :: r, h => by
    rw [List.any_cons, Bool.or_eq_false_iff] at h
    obtain ⟨h1, h2⟩ := lat_clean r h.2
    refine ⟨?_, ?_⟩
    · rw [List.map_cons, h1]
      unfold latU
      rw [h.1]; rfl
    · rw [List.contains_cons, h2, Bool.or_false, beq_eq_false_iff_ne]
      rintro rfl
      exact absurd h.1 (by decide)
theorem strNil_eq : strNil = toD [] := rfl
theorem examined1_f (w : List UInt8) (hl : w.length ≤ 140737488355328) : Gpaper_examined_1.f (toD w) = some (badW w) := by
  unfold Gpaper_examined_1.f badW
  rw [strNil_eq, toD_beq, latin_f w hl, contains_f]
  cases w with
  | nil => rfl
  | cons c r =>
    rw [decide_eq_false (by simp), Bool.not_false, cond_true, Option.bind_some, toD_beq, List.isEmpty_cons, Bool.false_or, Bool.false_or]
    by_cases h : (c :: r).map latU = c :: r
    · rw [decide_eq_true h, Bool.not_true, Bool.not_false, cond_true, Option.bind_some, Bool.false_or]
      congr 1
      cases h2 : (c :: r).contains 32 with
      | false => rw [lat_same _ h h2]
      | true => exact (List.any_eq_true.2 ⟨32, List.contains_iff_mem.1 h2, off32⟩).symm
    · rw [decide_eq_false h, Bool.not_false, Bool.not_true, cond_false, Option.bind_some, Bool.or_false]
      congr 1
      cases h2 : (c :: r).any offU with
      | true => rfl
      | false => exact absurd (lat_clean _ h2).1 h
theorem index_l (ws : List (List UInt8)) (hn : ws.length ≤ 1000000000000000) (hw : ∀ w ∈ ws, w.length ≤ 140737488355328) (κ : Unit → Option Int) (hκ : κ () = some (-1)) : ∀ (n i k : Nat), ws.length - i ≤ n → n < k → i ≤ ws.length →
    ∃ v : Int, Gslices_IndexFunc___string_string_63.l26 k (wD ws) () (ws.length : Int) (i : Int) κ = some v ∧ decide (v ≥ 0) = (ws.drop i).any badW := by
  intro n
  induction n with
  | zero =>
    intro i k h1 h2 h3
    obtain ⟨k, rfl⟩ : ∃ m, k = m + 1 := ⟨k - 1, by omega⟩
    rw [Gslices_IndexFunc___string_string_63.l26, dlt, decide_eq_false (by omega), cond_false, List.drop_eq_nil_of_le (by omega)]
    exact ⟨-1, hκ, rfl⟩
  | succ n ih =>
    intro i k h1 h2 h3
    obtain ⟨k, rfl⟩ : ∃ m, k = m + 1 := ⟨k - 1, by omega⟩
    rw [Gslices_IndexFunc___string_string_63.l26, dlt]
    by_cases h : i < ws.length
    · rw [decide_eq_true h, cond_true, gd_pos (inB_pos (by rw [wD_len]; omega)), toNat_nat, rd_wD h, examined1_f _ (hw _ (List.getElem_mem h)), Option.bind_some, List.drop_eq_getElem_cons h, List.any_cons]
      cases hb : badW ws[i] with
      | true => rw [cond_true]; exact ⟨(i : Int), rfl, by rw [Bool.true_or]; exact decide_eq_true (by omega)⟩
      | false =>
        rw [cond_false, w_succ _ (by omega), Bool.false_or]
        exact ih (i + 1) k (by omega) (by omega) (by omega)
    · rw [decide_eq_false h, cond_false, List.drop_eq_nil_of_le (by omega)]
      exact ⟨-1, hκ, rfl⟩
/-- The error of words and a width. -/
def errOf (ws : List (List UInt8)) (width : Int) : Int := if width < 1 ∨ 200 < width then 1 else if ws.any badW then 3 else 0
theorem examined_f (ws : List (List UInt8)) (width : Int) (hn : ws.length ≤ 1000000000000000) (hw : ∀ w ∈ ws, w.length ≤ 140737488355328) : Gpaper_examined.f (wD ws) width = some (errOf ws width) := by
  have hN := le_NN
  unfold Gpaper_examined.f errOf
  by_cases h : width < 1 ∨ 200 < width
  · have : (decide (width < 1) || decide (width > 200)) = true := by rw [Bool.or_eq_true, decide_eq_true_eq, decide_eq_true_eq]; exact h
    rw [this, cond_true, if_pos h]
  · have : (decide (width < 1) || decide (width > 200)) = false := by rw [Bool.or_eq_false_iff, decide_eq_false_iff_not, decide_eq_false_iff_not]; omega
    rw [this, cond_false, if_neg h]
    unfold Gslices_ContainsFunc___string_string_63.f Gslices_IndexFunc___string_string_63.f
    obtain ⟨v, hv, hd⟩ := index_l ws hn hw (fun _ => some (-1)) rfl ws.length 0 NN (by omega) (by omega) (by omega)
    rw [wD_len, show (0 : Int) = ((0 : Nat) : Int) from rfl, hv, Option.bind_some, Option.bind_some]
    rw [List.drop_zero] at hd
    rw [show decide (v ≥ ((0 : Nat) : Int)) = ws.any badW from hd]
    cases ws.any badW <;> rfl
/-- Words with single blanks between them. -/
abbrev joinL (ws : List (List UInt8)) : List UInt8 := Lib.join ws [32]
theorem joinL_nil : joinL [] = [] := Lib.join_nil _
theorem joinL_one (w : List UInt8) : joinL [w] = w := Lib.join_one _ _
theorem joinL_cons (w x : List UInt8) (r : List (List UInt8)) : joinL (w :: x :: r) = w ++ 32 :: joinL (x :: r) := by
  simp only [joinL, Lib.join_cons, Lib.joinTail, List.map_cons, List.flatten_cons, List.append_assoc, List.singleton_append, List.cons_append, List.nil_append]
theorem joinL_len : ∀ (ws : List (List UInt8)), (joinL ws).length = sumL ws + (ws.length - 1)
  | [] => rfl
  | [w] => by rw [joinL_one, sumL_cons]; simp [sumL_nil]
  | w :: x :: r => by
    have e := sumL_cons w (x :: r)
    rw [joinL_cons, List.length_append, List.length_cons, joinL_len (x :: r)]
    simp only [List.length_cons]; omega
theorem joinL_snoc : ∀ (ws : List (List UInt8)) (w : List UInt8), ws ≠ [] → joinL (ws ++ [w]) = joinL ws ++ 32 :: w
  | [], _, h => absurd rfl h
  | [x], w, _ => by rw [List.singleton_append, joinL_cons, joinL_one, joinL_one]
  | x :: y :: r, w, _ => by rw [List.cons_append, List.cons_append, joinL_cons, ← List.cons_append, joinL_snoc (y :: r) w (by simp), joinL_cons]; simp
theorem strs_wD (ws : List (List UInt8)) : (wD ws).map (fun x => x.str.data.toList) = ws := by
  rw [List.map_map]
  conv => rhs; rw [← List.map_id ws]
  exact List.map_congr_left fun w _ => by show (toD w).data.toList = w; rw [toD_data]
theorem join_f (ws : List (List UInt8)) (hn : ws.length ≤ 1000000) (hs : sumL ws ≤ 1000000000) : Gstrings_Join.f (wD ws) str20 = some (toD (joinL ws)) := by
  unfold Gstrings_Join.f joinB
  rw [strs_wD]
  show (bif Nat.ble (wD ws).length 1000000000 && Nat.ble (joinL ws).length 140737488355328 then some (toD (joinL ws)) else none) = _
  rw [wD_len, Nat.ble_eq_true_of_le (by omega), Nat.ble_eq_true_of_le (by rw [joinL_len]; omega)]; rfl
theorem wide_f (ws : List (List UInt8)) (hn : ws.length ≤ 1000000) (hs : sumL ws ≤ 1000000000) : Gpaper_wide.f (wD ws) = some ((joinL ws).length : Int) := by
  unfold Gpaper_wide.f
  rw [join_f ws hn hs, Option.bind_some, toD_size]
theorem repeat_rep (c : UInt8) : ∀ n : Nat, Lib.repeatL [c] n = List.replicate n c
  | 0 => rfl
  | n + 1 => by rw [Lib.repeatL, repeat_rep c n]; rfl
theorem repeat_f (n : Nat) (hn : n ≤ 1000000000) : Gstrings_Repeat.f str20 (n : Int) = some (toD (List.replicate n 32)) := by
  unfold Gstrings_Repeat.f
  rw [decide_eq_true (by omega), decide_eq_true (by omega), toNat_nat, Nat.ble_eq_true_of_le (show str20.size * n ≤ 140737488355328 by show 1 * n ≤ _; omega)]
  show some (⟨(Lib.repeatL [32] n).toArray⟩ : ByteArray) = _
  rw [repeat_rep]
/-- A line of words with blanks between them, n blanks more than there are gaps (g). -/
def spT (g n : Nat) : Nat → List (List UInt8) → List UInt8
  | _, [] => []
  | _, [w] => w
  | i, w :: x :: r => w ++ (List.replicate (1 + n / g + (if g - n % g ≤ i then 1 else 0)) 32 ++ spT g n (i + 1) (x :: r))
def spreadL (ws : List (List UInt8)) (width : Nat) : List UInt8 := spT (ws.length - 1) (width - (joinL ws).length) 0 ws
theorem put_f (l s : List UInt8) (h : l.length + s.length ≤ 1000000000) : GBuilder_WriteString.f (bD l) (toD s) = some ((s.length : Int), 0, bD (l ++ s)) := by
  unfold GBuilder_WriteString.f
  rw [bD_len, toD_size, Nat.ble_eq_true_of_le (by omega), cond_true, ubytes_bD, bD_app]
theorem bytes_bD (l : List UInt8) : (bD l).all isByte = true := by
  rw [List.all_eq_true]
  intro d hd
  obtain ⟨b, _, rfl⟩ := List.mem_map.1 hd
  show (decide (0 ≤ (b.toNat : Int)) && decide ((b.toNat : Int) < 256)) = true
  have := b.toNat_lt
  rw [decide_eq_true (by omega), decide_eq_true (by omega)]; rfl
theorem got_f (l : List UInt8) : GBuilder_String.f (bD l) = some (toD l, ()) := by
  unfold GBuilder_String.f
  rw [bytes_bD, cond_true, bstr_bD]
theorem spread_l (ws : List (List UInt8)) (N : Nat) (hN : N ≤ 200) (hn : ws.length ≤ 500) (hs : sumL ws ≤ 5000) (κ : List D → Option (ByteArray × Int)) : ∀ (n i k : Nat) (acc : List UInt8), ws.length - i ≤ n → n < k → i < ws.length → acc.length + sumL (ws.drop i) + (ws.length - i) * 300 ≤ 1000000 →
    Gpaper_Spread.l1018 k ((ws.length - 1 : Nat) : Int) (N : Int) (bD acc) (wD ws) (ws.length : Int) (i : Int) κ = κ (bD (acc ++ spT (ws.length - 1) N i (ws.drop i))) := by
  intro n
  induction n with
  | zero => intro i k acc h1 h2 h3; omega
  | succ n ih =>
    intro i k acc h1 h2 h hacc
    obtain ⟨k, rfl⟩ : ∃ m, k = m + 1 := ⟨k - 1, by omega⟩
    rw [List.drop_eq_getElem_cons h, sumL_cons] at hacc
    rw [Gpaper_Spread.l1018, dlt, decide_eq_true h, cond_true, gd_pos (inB_pos (by rw [wD_len]; omega)), toNat_nat, rd_wD h, put_f _ _ (by omega), Option.bind_some]
    simp only [beqI]
    by_cases hl : i = ws.length - 1
    · rw [show (i == ws.length - 1) = true from beq_iff_eq.2 hl, cond_true, List.drop_eq_getElem_cons h, List.drop_eq_nil_of_le (show ws.length ≤ i + 1 by omega)]
      rfl
    · have hi : i + 1 < ws.length := by omega
      rw [show (i == ws.length - 1) = false from beq_eq_false_iff_ne.2 hl, cond_false]
      generalize hG : ws.length - 1 = g at *
      have hg : 1 ≤ g := by omega
      have h0 : (!((g : Int) == 0)) = true := by
        rw [Bool.not_eq_true', beq_eq_false_iff_ne]; omega
      rw [gd_pos h0, gd_pos h0]
      have hm : (N : Int).tmod (g : Int) = ((N % g : Nat) : Int) := rfl
      have hd : (N : Int).tdiv (g : Int) = ((N / g : Nat) : Int) := rfl
      have hml : N % g < g := Nat.mod_lt _ (by omega)
      have hdl : N / g ≤ N := Nat.div_le_self _ _
      have hsp : spT g N i (ws.drop i) = ws[i] ++ (List.replicate (1 + N / g + (if g - N % g ≤ i then 1 else 0)) 32 ++ spT g N (i + 1) (ws.drop (i + 1))) := by
        rw [List.drop_eq_getElem_cons h, List.drop_eq_getElem_cons hi]; rfl
      rw [hm, hd, hsp]
      generalize N / g = q at *
      generalize N % g = r at *
      rw [w64 (((g : Nat) : Int) - (r : Int)) (by omega), w64 (q : Int) (by omega), w64 (1 + (q : Int)) (by omega), w64 (1 + (q : Int) + 1) (by omega)]
      have e1 : (1 + (q : Int) + 1) = ((1 + q + 1 : Nat) : Int) := by omega
      have e2 : (1 + (q : Int)) = ((1 + q + 0 : Nat) : Int) := by omega
      have hmul : (ws.length - i) * 300 = (ws.length - (i + 1)) * 300 + 300 := by omega
      rw [w_succ i (by omega)]
      by_cases hc : g - r ≤ i
      · rw [decide_eq_true (show (i : Int) ≥ ((g : Nat) : Int) - (r : Int) by omega), cond_true, e1, repeat_f _ (by omega), Option.bind_some, put_f _ _ (by rw [List.length_append, List.length_replicate]; omega), Option.bind_some]
        simp only
        rw [ih (i + 1) k _ (by omega) (by omega) hi (by rw [List.length_append, List.length_append, List.length_replicate]; omega), if_pos hc]
        simp only [List.append_assoc]
      · rw [decide_eq_false (show ¬ (i : Int) ≥ ((g : Nat) : Int) - (r : Int) by omega), cond_false, e2, repeat_f _ (by omega), Option.bind_some, put_f _ _ (by rw [List.length_append, List.length_replicate]; omega), Option.bind_some]
        simp only
        rw [ih (i + 1) k _ (by omega) (by omega) hi (by rw [List.length_append, List.length_append, List.length_replicate]; omega), if_neg hc]
        simp only [List.append_assoc]
/-- What Spread answers. -/
def spreadR (ws : List (List UInt8)) (width : Int) : ByteArray × Int := if errOf ws width ≠ 0 then (strNil, errOf ws width) else if ws = [] then (strNil, 4) else (toD (spreadL ws width.toNat), 0)
theorem err_width {ws : List (List UInt8)} {width : Int} (h : errOf ws width = 0) : 1 ≤ width ∧ width ≤ 200 ∧ ∀ w ∈ ws, badW w = false := by
  unfold errOf at h
  split at h
  · omega
  · split at h
    · omega
    · rename_i h1 h2
      refine ⟨by omega, by omega, fun w hw => ?_⟩
      cases hb : badW w with
      | false => rfl
      | true => exact absurd (List.any_eq_true.2 ⟨w, hw, hb⟩) h2
theorem spread_f (ws : List (List UInt8)) (width : Int) (hn : ws.length ≤ 500) (hs : sumL ws ≤ 5000) : Gpaper_Spread.f (wD ws) width = some (spreadR ws width) := by
  have hN := le_NN
  unfold Gpaper_Spread.f spreadR
  rw [examined_f ws width (by omega) (fun w hw => by have := sumL_mem hw; omega), Option.bind_some]
  by_cases he : errOf ws width = 0
  · obtain ⟨w1, w2, -⟩ := err_width he
    rw [show (errOf ws width != 0) = false by rw [he]; rfl, cond_false, if_neg (by simpa using he), wD_len]
    by_cases h0 : ws = []
    · subst h0
      rw [if_pos rfl]; rfl
    · have hp : 0 < ws.length := List.length_pos_iff.2 h0
      rw [if_neg h0, show ((ws.length : Int) == 0) = false by rw [beq_eq_false_iff_ne]; omega, cond_false, wide_f ws (by omega) (by omega), Option.bind_some, w64 (width - ((joinL ws).length : Int)) (by rw [joinL_len]; omega)]
      have e : (if width - ((joinL ws).length : Int) > 0 then width - ((joinL ws).length : Int) else 0) = ((width.toNat - (joinL ws).length : Nat) : Int) := by
        split <;> omega
      rw [e, w64 ((ws.length : Int) - 1) (by omega), show ((ws.length : Int) - 1) = ((ws.length - 1 : Nat) : Int) by omega, show (0 : Int) = ((0 : Nat) : Int) from rfl, show ([] : List D) = bD [] from rfl]
      rw [spread_l ws _ (by omega) hn hs _ ws.length 0 NN [] (by omega) (by omega) hp (by simp; omega), got_f, Option.bind_some]
      rfl
  · rw [show (errOf ws width != 0) = true by rw [bne_iff_ne]; exact he, cond_true, if_pos he]
end Go.Pv

namespace Go.Pv
set_option maxRecDepth 20000
/-! ### Names -/
theorem get_bang (s : ByteArray) (p : Nat) (h : p < s.size) : s.get! p = s.data.toList[p]'(by rw [data_len]; exact h) := by
  show s.data[p]! = _
  rw [getElem!_pos s.data p h]
  exact (Array.getElem_toList _).symm
theorem decode_off (s : ByteArray) (p : Nat) (h : p < s.size) : offB (Utf8.decode s p).1 = offU (s.data.toList[p]'(by rw [data_len]; exact h)) ∧ (offU (s.data.toList[p]'(by rw [data_len]; exact h)) = false → (Utf8.decode s p).2 = 1) := by
  have hb := get_bang s p h
  generalize hc : s.data.toList[p]'(by rw [data_len]; exact h) = c at *
  unfold Utf8.decode
  simp only [Nat.add_zero, hb]
  by_cases h1 : c.toNat < 128
  · rw [if_pos h1]
    exact ⟨rfl, fun _ => rfl⟩
  · have h2 : offU c = true := by
      unfold offU
      rw [decide_eq_true (show 126 < c.toNat by omega), Bool.or_true]
    rw [if_neg h1, h2]
    refine ⟨?_, fun h => by cases h⟩
    have big : ∀ n, 128 ≤ n → offB n = true := fun n hn => by
      unfold offB
      rw [decide_eq_true (show 126 < n by omega), Bool.or_true]
    split
    · split
      · rename_i h3; exact big _ h3
      · exact big _ (by decide)
    · split
      · split
        · rename_i h3
          simp only [Bool.and_eq_true, decide_eq_true_eq] at h3
          exact big _ (by omega)
        · exact big _ (by decide)
      · split
        · split
          · rename_i h3
            simp only [Bool.and_eq_true, decide_eq_true_eq] at h3
            exact big _ (by omega)
          · exact big _ (by decide)
        · exact big _ (by decide)
theorem idx_off (s : ByteArray) : ∀ (f p : Nat), s.size - p ≤ f → decide (0 ≤ Lib.idxFuncFrom offB true s f p) = (Lx s p).any offU
  | 0, p, h => by rw [Lx_nil (by omega)]; rfl
  | f + 1, p, h => by
    unfold Lib.idxFuncFrom
    by_cases hp : p < s.size
    · have hl : p < s.data.toList.length := by rw [data_len]; exact hp
      rw [if_pos hp, show Lx s p = s.data.toList[p] :: Lx s (p + 1) from List.drop_eq_getElem_cons hl, List.any_cons]
      obtain ⟨e1, e2⟩ := decode_off s p hp
      cases hc : offU s.data.toList[p] with
      | true => rw [if_pos (e1.trans hc), Bool.true_or]; exact decide_eq_true (by omega)
      | false =>
        have hf : ¬ offB (Utf8.decode s p).1 = true := by rw [e1, hc]; decide
        rw [if_neg hf, e2 hc, Bool.false_or]
        exact idx_off s f (p + 1) (by omega)
    · rw [if_neg hp, Lx_nil (by omega)]; rfl
def nameOk (n : List UInt8) : Bool := decide (1 ≤ n.length) && decide (n.length ≤ 40) && !n.any offU
theorem isName_f (n : List UInt8) : Gpaper_isName.f (toD n) = some (nameOk n) := by
  unfold Gpaper_isName.f nameOk
  rw [toD_size, show (1 : Int) = ((1 : Nat) : Int) from rfl, show (40 : Int) = ((40 : Nat) : Int) from rfl, dge, dle]
  cases h : decide (1 ≤ n.length) && decide (n.length ≤ 40) with
  | false => rfl
  | true =>
    rw [cond_true]
    unfold Gstrings_ContainsFunc.f Lib.idxFunc
    rw [idx_off _ _ _ (by omega), Option.bind_some]
    simp
theorem word_f (c : UInt8) : Gr28_isWord.f (c.toNat : Int) = some (!offU c) := by
  unfold Gr28_isWord.f offU
  congr 1
  rw [Bool.eq_iff_iff]
  simp only [Bool.and_eq_true, decide_eq_true_eq, Bool.not_eq_true', Bool.or_eq_false_iff, decide_eq_false_iff_not]
  omega
theorem bt_toD {l : List UInt8} {i : Nat} (h : i < l.length) : bt (toD l) i = (l[i].toNat : Int) := by
  unfold bt
  rw [toD_data, List.getD_eq_getElem?_getD, List.getElem?_eq_getElem h]; rfl
theorem rname_l (l : List UInt8) (hn : l.length ≤ 1000000000000000) (κ : ByteArray → Option Bool) : ∀ (n i k : Nat), l.length - i ≤ n → n < k → i ≤ l.length →
    Gr28_isName.l26 k (toD l) (i : Int) κ = if (l.drop i).any offU then some false else κ (toD l) := by
  intro n
  induction n with
  | zero =>
    intro i k h1 h2 h3
    obtain ⟨k, rfl⟩ : ∃ m, k = m + 1 := ⟨k - 1, by omega⟩
    rw [Gr28_isName.l26, toD_size, dlt, decide_eq_false (by omega), cond_false, List.drop_eq_nil_of_le (by omega)]; rfl
  | succ n ih =>
    intro i k h1 h2 h3
    obtain ⟨k, rfl⟩ : ∃ m, k = m + 1 := ⟨k - 1, by omega⟩
    rw [Gr28_isName.l26, toD_size, dlt]
    by_cases h : i < l.length
    · rw [decide_eq_true h, cond_true, gd_pos (inB_pos (by omega)), toNat_nat, bt_toD h, word_f, Option.bind_some, List.drop_eq_getElem_cons h, List.any_cons, Bool.not_not]
      cases hc : offU l[i] with
      | true => rw [cond_true, Bool.true_or, if_pos rfl]
      | false => rw [cond_false, Bool.false_or, w_succ _ (by omega), ih (i + 1) k (by omega) (by omega) (by omega)]
    · rw [decide_eq_false h, cond_false, List.drop_eq_nil_of_le (by omega)]; rfl
theorem rname_f (l : List UInt8) (hn : l.length ≤ 1000000000000000) : Gr28_isName.f (toD l) = some (nameOk l) := by
  have hN := le_NN
  unfold Gr28_isName.f nameOk
  rw [show (0 : Int) = ((0 : Nat) : Int) from rfl, rname_l l hn _ l.length 0 NN (by omega) (by omega) (by omega), List.drop_zero, toD_size]
  simp only [show (1 : Int) = ((1 : Nat) : Int) from rfl, show (40 : Int) = ((40 : Nat) : Int) from rfl, dge, dle]
  cases h : l.any offU with
  | true => simp
  | false => simp
/-! ### Sums -/
theorem w32 (n : Int) (h : 0 ≤ n) : IntKind.u32.wrap n = ((n.toNat % 4294967296 : Nat) : Int) := by
  rw [IntKind.wrap_u32]; omega
/-- The sum of bytes, the first of which is the i-th one. -/
def sumN : Nat → Nat → List UInt8 → Nat
  | _, v, [] => v
  | i, v, c :: r => sumN (i + 1) ((v + (i + 1) * c.toNat) % 4294967296) r
theorem sumN_lt : ∀ (l : List UInt8) (i v : Nat), v < 4294967296 → sumN i v l < 4294967296
  | [], _, _, h => h
  | c :: r, i, v, _ => by rw [sumN]; exact sumN_lt r _ _ (Nat.mod_lt _ (by decide))
theorem mul_small (i : Nat) (c : UInt8) (hi : i ≤ 1000000) : (i + 1) * c.toNat ≤ 255000255 := by
  have := c.toNat_lt
  calc (i + 1) * c.toNat ≤ 1000001 * 255 := Nat.mul_le_mul (by omega) (by omega)
    _ = _ := by decide
theorem sum_l (l : List UInt8) (hl : l.length ≤ 1000000) (κ : Int → Option Int) : ∀ (n i k v : Nat), l.length - i ≤ n → n < k → i ≤ l.length → v < 4294967296 →
    Gpaper_Sum.l58 k (v : Int) (bD l) (l.length : Int) (i : Int) κ = κ (sumN i v (l.drop i) : Nat) := by
  intro n
  induction n with
  | zero =>
    intro i k v h1 h2 h3 h4
    obtain ⟨k, rfl⟩ : ∃ m, k = m + 1 := ⟨k - 1, by omega⟩
    rw [Gpaper_Sum.l58, dlt, decide_eq_false (by omega), cond_false, List.drop_eq_nil_of_le (by omega)]; rfl
  | succ n ih =>
    intro i k v h1 h2 h3 h4
    obtain ⟨k, rfl⟩ : ∃ m, k = m + 1 := ⟨k - 1, by omega⟩
    rw [Gpaper_Sum.l58, dlt]
    by_cases h : i < l.length
    · have hm := mul_small i l[i] (by omega)
      have hc := l[i].toNat_lt
      rw [decide_eq_true h, cond_true, gd_pos (inB_pos (by rw [bD_len]; omega)), toNat_nat, rd_bD h, D.int, w_succ i (by omega)]
      have e1 : IntKind.u32.wrap ((i + 1 : Nat) : Int) = ((i + 1 : Nat) : Int) := by rw [w32 _ (by omega)]; omega
      have e2 : IntKind.u32.wrap (l[i].toNat : Int) = (l[i].toNat : Int) := by rw [w32 _ (by omega)]; omega
      have e3 : ((i + 1 : Nat) : Int) * (l[i].toNat : Int) = (((i + 1) * l[i].toNat : Nat) : Int) := (Int.natCast_mul ..).symm
      rw [e1, e2, e3, List.drop_eq_getElem_cons h, sumN]
      generalize (i + 1) * l[i].toNat = p at *
      have e4 : IntKind.u32.wrap (p : Int) = (p : Int) := by rw [w32 _ (by omega)]; omega
      have e5 : IntKind.u32.wrap ((v : Int) + (p : Int)) = (((v + p) % 4294967296 : Nat) : Int) := by rw [w32 _ (by omega)]; omega
      rw [e4, e5, ih (i + 1) k _ (by omega) (by omega) (by omega) (Nat.mod_lt _ (by decide))]
    · rw [decide_eq_false h, cond_false, List.drop_eq_nil_of_le (by omega)]; rfl
theorem sum_f (l : List UInt8) (hl : l.length ≤ 1000000) : Gpaper_Sum.f (bD l) = some ((sumN 0 0 l : Nat) : Int) := by
  have hN := le_NN
  unfold Gpaper_Sum.f
  have e := sum_l l hl (fun y1 => some (IntKind.i64.wrap y1)) l.length 0 NN 0 (by omega) (by omega) (by omega) (by omega)
  rw [List.drop_zero] at e
  rw [bD_len]
  refine e.trans ?_
  have := sumN_lt l 0 0 (by decide)
  show some (IntKind.i64.wrap _) = _
  rw [w64 _ (by omega)]
theorem and_mask (n : Nat) (h : n < 9223372036854775808) : ((BitVec.ofInt (IntKind.i64).bits (n : Int) &&& BitVec.ofInt (IntKind.i64).bits 4294967295).toNat : Int) = ((n % 4294967296 : Nat) : Int) := by
  rw [BitVec.toNat_and]
  have e1 : (BitVec.ofInt (IntKind.i64).bits (n : Int)).toNat = n := by
    rw [BitVec.toNat_ofInt]
    show ((n : Int) % ((2 ^ 64 : Nat) : Int)).toNat = n
    omega
  have e2 : (BitVec.ofInt (IntKind.i64).bits 4294967295).toNat = 2 ^ 32 - 1 := by decide
  rw [e1, e2, Nat.and_two_pow_sub_one_eq_mod]
theorem rsum_l (l : List UInt8) (hl : l.length ≤ 1000000) (κ : Int → Option Int) : ∀ (n i k v : Nat), l.length - i ≤ n → n < k → i ≤ l.length → v < 4294967296 →
    Gr10_Sum.l58 k (bD l) (v : Int) (i : Int) κ = κ (sumN i v (l.drop i) : Nat) := by
  intro n
  induction n with
  | zero =>
    intro i k v h1 h2 h3 h4
    obtain ⟨k, rfl⟩ : ∃ m, k = m + 1 := ⟨k - 1, by omega⟩
    rw [Gr10_Sum.l58, bD_len, dlt, decide_eq_false (by omega), cond_false, List.drop_eq_nil_of_le (by omega)]; rfl
  | succ n ih =>
    intro i k v h1 h2 h3 h4
    obtain ⟨k, rfl⟩ : ∃ m, k = m + 1 := ⟨k - 1, by omega⟩
    rw [Gr10_Sum.l58, bD_len, dlt]
    by_cases h : i < l.length
    · have hm := mul_small i l[i] (by omega)
      have hc := l[i].toNat_lt
      rw [decide_eq_true h, cond_true, gd_pos (inB_pos (by omega)), toNat_nat, rd_bD h, D.int, w_succ i (by omega), w64 (l[i].toNat : Int) (by omega)]
      have e3 : ((i + 1 : Nat) : Int) * (l[i].toNat : Int) = (((i + 1) * l[i].toNat : Nat) : Int) := (Int.natCast_mul ..).symm
      rw [e3, List.drop_eq_getElem_cons h, sumN]
      generalize (i + 1) * l[i].toNat = p at *
      rw [w64 (p : Int) (by omega), w64 ((v : Int) + (p : Int)) (by omega), show ((v : Int) + (p : Int)) = ((v + p : Nat) : Int) by omega, and_mask _ (by omega), w64 _ (by omega)]
      exact ih (i + 1) k _ (by omega) (by omega) (by omega) (Nat.mod_lt _ (by decide))
    · rw [decide_eq_false h, cond_false, List.drop_eq_nil_of_le (by omega)]; rfl
theorem rsum_f (l : List UInt8) (hl : l.length ≤ 1000000) : Gr10_Sum.f (bD l) = some ((sumN 0 0 l : Nat) : Int) := by
  have hN := le_NN
  unfold Gr10_Sum.f
  have e := rsum_l l hl (fun y1 => some y1) l.length 0 NN 0 (by omega) (by omega) (by omega) (by omega)
  rw [List.drop_zero] at e
  exact e
/-! ### Digits -/
theorem itoa_f (n : Nat) (h : n ≤ 1000000000) : Gstrconv_Itoa.f (n : Int) = some (toD (Lib.decDigits n)) := by
  unfold Gstrconv_Itoa.f
  rw [decide_eq_true (by omega), decide_eq_true (by omega)]
  show some (toD (Lib.itoa (n : Int))) = _
  unfold Lib.itoa
  rw [if_neg (by omega), toNat_nat]
theorem ext_digit : ∀ d : Nat, d < 10 → str30313233343536373839.extract d (d + 1) = toD [UInt8.ofNat (48 + d)] := by decide
theorem digits_k (n : Nat) : ∀ (j : Nat), j ≤ 20 → n < 10 ^ (j + 1) → n ≤ 1000000000 → ∀ k, j < k → (Gr28_digits_S.rec k (n : Int) : Option ByteArray) = some (toD (Lib.decDigits n)) ∧ (Lib.decDigits n).length ≤ j + 1 := by
  induction n using Nat.strongRecOn with
  | _ n ih =>
    intro j hj20 hj hn k hk
    obtain ⟨k, rfl⟩ : ∃ m, k = m + 1 := ⟨k - 1, by omega⟩
    show Gr28_digits.f (Gr28_digits_S.rec k) (n : Int) = _ ∧ _
    unfold Gr28_digits.f
    rw [Lib.decDigits, show (10 : Int) = ((10 : Nat) : Int) from rfl, dlt]
    by_cases h : n < 10
    · rw [decide_eq_true h, cond_true, dif_pos h, w_succ n (by omega), show (str30313233343536373839.size : Int) = ((10 : Nat) : Int) from rfl, dle, dle, decide_eq_true (by omega), decide_eq_true (by omega), decide_eq_true (by omega), gd_pos (show (true && (true && true)) = true from rfl), toNat_nat, toNat_nat, ext_digit n h]
      exact ⟨rfl, by simp⟩
    · have hj0 : 1 ≤ j := by
        rcases Nat.eq_zero_or_pos j with rfl | h'
        · simp at hj; omega
        · exact h'
      obtain ⟨j, rfl⟩ : ∃ m, j = m + 1 := ⟨j - 1, by omega⟩
      have hdiv : n / 10 < 10 ^ (j + 1) := by
        rw [Nat.div_lt_iff_lt_mul (by decide)]
        rw [Nat.pow_succ] at hj; exact hj
      have ed : (n : Int).tdiv ((10 : Nat) : Int) = ((n / 10 : Nat) : Int) := rfl
      have em : (n : Int).tmod ((10 : Nat) : Int) = ((n % 10 : Nat) : Int) := rfl
      obtain ⟨r1, r2⟩ := ih (n / 10) (by omega) j (by omega) hdiv (by omega) k (by omega)
      obtain ⟨q1, q2⟩ := ih (n % 10) (by omega) 0 (by omega) (by omega) (by omega) k (by omega)
      have eq : Lib.decDigits (n % 10) = [UInt8.ofNat (48 + n % 10)] := by rw [Lib.decDigits, dif_pos (by omega)]
      have h10 : (!((10 : Nat) == 0)) = true := by decide
      rw [decide_eq_false h, cond_false, dif_neg h, gd_pos h10, ed, w64 _ (by omega), r1, Option.bind_some, gd_pos h10, em, q1, Option.bind_some]
      have hlen : (toD (Lib.decDigits (n / 10))).size + (toD (Lib.decDigits (n % 10))).size ≤ j + 2 := by rw [toD_size, toD_size, eq]; simp; exact r2
      rw [gd_pos (decide_eq_true (by unfold maxS; omega)), toD_app, eq]
      exact ⟨rfl, by rw [List.length_append]; simp; exact r2⟩
theorem digits_f (n : Nat) (h : n ≤ 1000000000) : (Gr28_digits.F (n : Int) : Option ByteArray) = some (toD (Lib.decDigits n)) ∧ (Lib.decDigits n).length ≤ 12 := by
  have hN := le_NN
  exact digits_k n 11 (by decide) (by calc n ≤ 1000000000 := h
    _ < 10 ^ 12 := by decide) h NN (by omega)
/-! ### Sums as texts -/
def hexP : Nat → Nat → List UInt8
  | 0, _ => []
  | k + 1, n => hexP k (n / 16) ++ [Go.Proofs.Lx.hexD (n % 16)]
theorem hexP_len : ∀ k n, (hexP k n).length = k
  | 0, _ => rfl
  | k + 1, n => by rw [hexP, List.length_append, hexP_len k]; rfl
theorem hexP_zero : ∀ k, hexP k 0 = List.replicate k 48
  | 0 => rfl
  | k + 1 => by rw [hexP, hexP_zero k, List.replicate_succ']; rfl
theorem hexF_pad : ∀ (k n f : Nat), n < 16 ^ (k + 1) → k < f → (Go.Proofs.Lx.hexF f n).length ≤ k + 1 ∧ List.replicate (k + 1 - (Go.Proofs.Lx.hexF f n).length) 48 ++ Go.Proofs.Lx.hexF f n = hexP (k + 1) n
  | k, n, 0, _, h2 => by omega
  | k, n, f + 1, h1, h2 => by
    rw [Go.Proofs.Lx.hexF]
    by_cases h : n < 16
    · rw [if_pos h, hexP, show n / 16 = 0 by omega, hexP_zero, Nat.mod_eq_of_lt h]
      exact ⟨by simp, by simp⟩
    · rw [if_neg h]
      have hk : 1 ≤ k := by
        rcases Nat.eq_zero_or_pos k with rfl | h'
        · simp at h1; omega
        · exact h'
      obtain ⟨k, rfl⟩ : ∃ m, k = m + 1 := ⟨k - 1, by omega⟩
      have hd : n / 16 < 16 ^ (k + 1) := by
        rw [Nat.div_lt_iff_lt_mul (by decide)]
        rw [Nat.pow_succ] at h1; exact h1
      obtain ⟨r1, r2⟩ := hexF_pad k (n / 16) f hd (by omega)
      rw [hexP, ← r2]
      refine ⟨by rw [List.length_append]; simp; exact r1, ?_⟩
      rw [List.length_append, ← List.append_assoc]
      simp
theorem repeat0_f (n : Nat) (hn : n ≤ 1000) : Gstrings_Repeat.f str30 (n : Int) = some (toD (List.replicate n 48)) := by
  unfold Gstrings_Repeat.f
  rw [decide_eq_true (by omega), decide_eq_true (by omega), toNat_nat, Nat.ble_eq_true_of_le (show str30.size * n ≤ 140737488355328 by show 1 * n ≤ _; omega)]
  show some (⟨(Lib.repeatL [48] n).toArray⟩ : ByteArray) = _
  rw [repeat_rep]
theorem hex_f (n : Nat) (h : n < 4294967296) : Gpaper_hex.f (n : Int) = some (toD (hexP 8 n)) := by
  unfold Gpaper_hex.f Gstrconv_FormatInt.f
  obtain ⟨r1, r2⟩ := hexF_pad 7 n 20 (by calc n < 4294967296 := h
    _ = 16 ^ (7 + 1) := by decide) (by decide)
  rw [decide_eq_true (by omega), decide_eq_true (by omega), show ((16 : Int) == 16) = true from rfl, Bool.and_self, Bool.and_self, cond_true, Option.bind_some, toNat_nat]
  show ((Gstrings_Repeat.f str30 (IntKind.i64.wrap (8 - ((toD (Go.Proofs.Lx.hexF 20 n)).size : Int)))).bind fun r2 => gd (decide (r2.size + (toD (Go.Proofs.Lx.hexF 20 n)).size ≤ maxS)) (some (r2 ++ toD (Go.Proofs.Lx.hexF 20 n)))) = _
  rw [toD_size, w64 _ (by omega), show (8 - ((Go.Proofs.Lx.hexF 20 n).length : Int)) = ((7 + 1 - (Go.Proofs.Lx.hexF 20 n).length : Nat) : Int) by omega, repeat0_f _ (by omega), Option.bind_some, gd_pos (decide_eq_true (by rw [toD_size, List.length_replicate]; unfold maxS; omega)), toD_app, r2]
theorem hex_digit : ∀ d : Nat, d < 16 → bt str30313233343536373839616263646566 d = ((Go.Proofs.Lx.hexD d).toNat : Int) := by decide
theorem rhex_l (κ : ByteArray → Option ByteArray) : ∀ (j i k n : Nat) (acc : List UInt8), i + j = 8 → j < k → n ≤ 1000000000000 → acc.length + j ≤ 100 → Gr28_hex.l58 k (n : Int) (toD acc) (i : Int) κ = κ (toD (hexP j n ++ acc))
  | 0, i, k, n, acc, h1, h2, hn, ha => by
    obtain ⟨k, rfl⟩ : ∃ m, k = m + 1 := ⟨k - 1, by omega⟩
    rw [Gr28_hex.l58, show (8 : Int) = ((8 : Nat) : Int) from rfl, dlt, decide_eq_false (by omega), cond_false]; rfl
  | j + 1, i, k, n, acc, h1, h2, hn, ha => by
    obtain ⟨k, rfl⟩ : ∃ m, k = m + 1 := ⟨k - 1, by omega⟩
    have ed : (n : Int).tdiv 16 = ((n / 16 : Nat) : Int) := rfl
    have em : (n : Int).tmod 16 = ((n % 16 : Nat) : Int) := rfl
    have h16 : (!((16 : Nat) == 0)) = true := by decide
    have e1 : bstr ([.i ((Go.Proofs.Lx.hexD (n % 16)).toNat : Int)] : List D) = toD [Go.Proofs.Lx.hexD (n % 16)] := bstr_bD [_]
    rw [Gr28_hex.l58, show (8 : Int) = ((8 : Nat) : Int) from rfl, dlt, decide_eq_true (by omega), cond_true, gd_pos h16, em, gd_pos (inB_pos (by show 0 ≤ ((n % 16 : Nat) : Int) ∧ ((n % 16 : Nat) : Int) < 16; omega)), toNat_nat, hex_digit (n % 16) (Nat.mod_lt _ (by decide)), e1, gd_pos (decide_eq_true (by rw [toD_size, toD_size, List.length_singleton]; unfold maxS; omega)), gd_pos h16, ed, w64 _ (by omega), toD_app, w_succ i (by omega), rhex_l κ j (i + 1) k (n / 16) _ (by omega) (by omega) (by omega) (by simp; omega), hexP]
    simp
theorem rhex_f (n : Nat) (h : n < 4294967296) : Gr28_hex.f (n : Int) = some (toD (hexP 8 n)) := by
  have hN := le_NN
  unfold Gr28_hex.f
  rw [show (0 : Int) = ((0 : Nat) : Int) from rfl, strNil_eq, rhex_l _ 8 0 NN n [] (by omega) (by omega) (by omega) (by simp), List.append_nil]
end Go.Pv

namespace Go.Pv
set_option maxRecDepth 20000
abbrev F2 := List UInt8 × List UInt8
/-- A file as data. -/
abbrev fE (f : F2) : D := .r [.s (toD f.1), .l (bD f.2)]
abbrev fD (fs : List F2) : List D := fs.map fE
theorem fD_len (fs : List F2) : (fD fs).length = fs.length := List.length_map _
theorem rd_fD {fs : List F2} {i : Nat} (h : i < fs.length) : rd (fD fs) i = fE fs[i] := rd_map _ fs i h
theorem fE0 (f : F2) : ((fE f).cell 0).str = toD f.1 := rfl
theorem fE1 (f : F2) : ((fE f).cell 1).list = bD f.2 := rfl
/-- How many bytes files have. -/
def szF : List F2 → Nat
  | [] => 0
  | f :: r => f.2.length + f.1.length + szF r
theorem szF_mem {f : F2} : ∀ {l : List F2}, f ∈ l → f.2.length + f.1.length ≤ szF l
  | x :: r, h => by
    rw [szF]
    rcases List.mem_cons.1 h with rfl | h
    · omega
    · have := szF_mem h; omega
def largeV : Int → List F2 → Int
  | v, [] => v
  | v, f :: r => largeV (IntKind.i64.wrap (v + (IntKind.i64.wrap ((f.2.length : Int) + (f.1.length : Int))))) r
theorem largeV_eq (M : Nat) (hM0 : M ≤ 1000000000000000) : ∀ (r : List F2) (v : Int), (∀ f ∈ r, f.1.length ≤ M ∧ f.2.length ≤ M) → 0 ≤ v → v + ((r.length * (2 * M) : Nat) : Int) ≤ 9223372036854775807 → largeV v r = v + (szF r : Int)
  | [], v, _, _, _ => by simp [largeV, szF]
  | f :: r, v, h, h0, hM => by
    have hw := h f (List.mem_cons_self ..)
    have e : (f :: r).length * (2 * M) = r.length * (2 * M) + 2 * M := by rw [List.length_cons, Nat.succ_mul]
    rw [e] at hM
    rw [largeV, w64 ((f.2.length : Int) + (f.1.length : Int)) (by omega), w64 _ (by omega), largeV_eq M hM0 r _ (fun x hx => h x (List.mem_cons_of_mem _ hx)) (by omega) (by omega), szF]
    omega
theorem large_l (fs : List F2) (hn : fs.length ≤ 1000000000000000) (κ : (List D × Int) → Option Bool) : ∀ (n i k : Nat) (v : Int), fs.length - i ≤ n → n < k → i ≤ fs.length →
    Gw28_large.l58 k (fD fs) v (i : Int) κ = κ (fD fs, largeV v (fs.drop i)) := by
  intro n
  induction n with
  | zero =>
    intro i k v h1 h2 h3
    obtain ⟨k, rfl⟩ : ∃ m, k = m + 1 := ⟨k - 1, by omega⟩
    rw [Gw28_large.l58, fD_len, dlt, decide_eq_false (by omega), cond_false, List.drop_eq_nil_of_le (by omega)]; rfl
  | succ n ih =>
    intro i k v h1 h2 h3
    obtain ⟨k, rfl⟩ : ∃ m, k = m + 1 := ⟨k - 1, by omega⟩
    rw [Gw28_large.l58, fD_len, dlt]
    by_cases h : i < fs.length
    · rw [decide_eq_true h, cond_true, gd_pos (inB_pos (by omega)), gd_pos (inB_pos (by omega)), toNat_nat, rd_fD h, fE0, fE1, bD_len, toD_size, w_succ _ (by omega), ih (i + 1) k _ (by omega) (by omega) (by omega), List.drop_eq_getElem_cons h]; rfl
    · rw [decide_eq_false h, cond_false, List.drop_eq_nil_of_le (by omega)]; rfl
theorem large_f (fs : List F2) (hn : fs.length ≤ 140737488355328) (hw : ∀ f ∈ fs, f.1.length ≤ 140737488355328 ∧ f.2.length ≤ 140737488355328) : ∃ b, Gw28_large.f (fD fs) = some b ∧ (b = false → fs.length ≤ 200 ∧ szF fs ≤ 600000) := by
  have hN := le_NN
  unfold Gw28_large.f
  rw [show (0 : Int) = ((0 : Nat) : Int) from rfl, large_l fs (by omega) _ fs.length 0 NN _ (by omega) (by omega) (by omega), List.drop_zero]
  refine ⟨_, rfl, fun h => ?_⟩
  simp only [fD_len, Bool.or_eq_false_iff, decide_eq_false_iff_not] at h
  have h1 : fs.length ≤ 200 := by omega
  have hm : fs.length * (2 * 140737488355328) ≤ 200 * (2 * 140737488355328) := Nat.mul_le_mul_right _ h1
  have h2 := h.2
  rw [show (((0 : Nat) : Int)) = 0 from rfl, largeV_eq 140737488355328 (by omega) fs 0 hw (by omega) (by omega)] at h2
  exact ⟨h1, by omega⟩
/-- The error of files' names: of the first file that has one. -/
def errN : List (List UInt8) → List F2 → Int
  | _, [] => 0
  | seen, f :: r => if nameOk f.1 = false then 220 else if seen.contains f.1 then 6 else errN (f.1 :: seen) r
def entryL (f : F2) : List UInt8 := [102, 105, 108, 101, 32] ++ (f.1 ++ (32 :: (Lib.decDigits f.2.length ++ (32 :: (hexP 8 (sumN 0 0 f.2) ++ (10 :: (f.2 ++ [10])))))))
def bodyL : List F2 → List UInt8
  | [] => []
  | f :: r => entryL f ++ bodyL r
def packL (fs : List F2) : List UInt8 := [112, 107, 49, 10] ++ (bodyL fs ++ ([101, 110, 100, 32] ++ (Lib.decDigits fs.length ++ [10])))
def packR (fs : List F2) : List D × Int := if errN [] fs ≠ 0 then ([], errN [] fs) else if 100 < fs.length ∨ 500000 < (packL fs).length then ([], 2) else (bD (packL fs), 0)
theorem entry_len {f : F2} (h : f.2.length ≤ 1000000) : (entryL f).length ≤ f.2.length + f.1.length + 40 := by
  have := (digits_f f.2.length (by omega)).2
  simp only [entryL, List.length_append, List.length_cons, List.length_nil, hexP_len]
  omega
/-! ### The program -/
abbrev seenD (l : List (List UInt8)) : List (D × D) := l.map fun n => (.s (toD n), .b true)
theorem mget_seen (w : List UInt8) : ∀ (ls : List (List UInt8)), (mget K.str (.s (toD w)) (.b false) (seenD ls)).bool = ls.contains w
  | [] => rfl
  | l :: ls => by
    simp only [List.map_cons, mget, dEq, D.str, List.contains_cons]
    rw [toD_beq]
    cases h : (w == l) with
    | true => rw [decide_eq_true (eq_of_beq h)]; rfl
    | false =>
      rw [decide_eq_false (by simpa using h), cond_false, Bool.false_or]
      exact mget_seen w ls
theorem names_l (fs : List F2) (hn : fs.length ≤ 1000) (hs : szF fs ≤ 1000000) (κ : List D → Option (List D × Int)) : ∀ (n i k : Nat) (seen : List (List UInt8)), fs.length - i ≤ n → n < k → i ≤ fs.length → seen.length ≤ i →
    Gpaper_Pack.l58 k (fD fs) (seenD seen) (fD fs) (fs.length : Int) (i : Int) κ = if errN seen (fs.drop i) ≠ 0 then some ([], errN seen (fs.drop i)) else κ (fD fs) := by
  intro n
  induction n with
  | zero =>
    intro i k seen h1 h2 h3 h4
    obtain ⟨k, rfl⟩ : ∃ m, k = m + 1 := ⟨k - 1, by omega⟩
    rw [Gpaper_Pack.l58, dlt, decide_eq_false (by omega), cond_false, List.drop_eq_nil_of_le (by omega)]; rfl
  | succ n ih =>
    intro i k seen h1 h2 h3 h4
    obtain ⟨k, rfl⟩ : ∃ m, k = m + 1 := ⟨k - 1, by omega⟩
    rw [Gpaper_Pack.l58, dlt]
    by_cases h : i < fs.length
    · have hsz := szF_mem (List.getElem_mem h)
      have hms : decide ((toD fs[i].1).size ≤ maxS) = true := decide_eq_true (by rw [toD_size]; unfold maxS; omega)
      rw [decide_eq_true h, cond_true, gd_pos (inB_pos (by rw [fD_len]; omega)), toNat_nat, rd_fD h, fE0, isName_f, Option.bind_some, List.drop_eq_getElem_cons h, errN]
      cases hk : nameOk fs[i].1 with
      | false => rfl
      | true =>
        rw [Bool.not_true, cond_false, gd_pos hms, mget_seen, if_neg (show ¬ (true = false) by decide)]
        cases hc : seen.contains fs[i].1 with
        | true => rfl
        | false =>
          have hl : (decide ((toD fs[i].1).size ≤ maxS) && Nat.blt (seenD seen).length lim) = true := by
            rw [hms, blt_pos (by rw [List.length_map]; unfold lim; omega)]; rfl
          rw [cond_false, gd_pos hl, w_succ _ (by omega), if_neg (show ¬ (false = true) by decide)]
          exact ih (i + 1) k (fs[i].1 :: seen) (by omega) (by omega) (by omega) (by simp; omega)
    · rw [decide_eq_false h, cond_false, List.drop_eq_nil_of_le (by omega)]; rfl
theorem bput_f (l s : List UInt8) (x : Int) (h0 : 0 < s.length) (h : l.length + s.length ≤ 1000000000) : GBuffer_WriteString.f (bD l, 0, x, ()) (toD s) = some ((s.length : Int), 0, bD (l ++ s), 0, 0, ()) := by
  unfold GBuffer_WriteString.f
  simp only [bD_len, toD_size, ubytes_bD, bD_app]
  rw [blt_pos h0, Nat.ble_eq_true_of_le (show l.length + s.length ≤ 140737488355328 by omega)]; rfl
theorem bwrite_f (l s : List UInt8) (x : Int) (h : l.length + s.length ≤ 1000000000) : GBuffer_Write.f (bD l, 0, x, ()) (bD s) = some ((s.length : Int), 0, bD (l ++ s), 0, 0, ()) := by
  unfold GBuffer_Write.f
  simp only [bD_len, bD_app]
  rw [Nat.ble_eq_true_of_le (show l.length + s.length ≤ 140737488355328 by omega)]; rfl
theorem bbyte_f (l : List UInt8) (c : UInt8) (x : Int) (h : l.length ≤ 1000000000) : GBuffer_WriteByte.f (bD l, 0, x, ()) (c.toNat : Int) = some (0, bD (l ++ [c]), 0, 0, ()) := by
  unfold GBuffer_WriteByte.f
  simp only [bD_len]
  rw [Nat.ble_eq_true_of_le (show l.length + 1 ≤ 140737488355328 by omega), ← bD_app]; rfl
theorem str_file : str66696c6520 = toD [102, 105, 108, 101, 32] := rfl
theorem str_sp : str20 = toD [32] := rfl
theorem str_nl : str0a = toD [10] := rfl
theorem str_end : str656e6420 = toD [101, 110, 100, 32] := rfl
theorem str_pk : str706b310a = toD [112, 107, 49, 10] := rfl
theorem sz_ok {l : List UInt8} {x : ByteArray} (h : l.length + x.size ≤ 140737488355328) : decide ((toD l).size + x.size ≤ maxS) = true := decide_eq_true (by rw [toD_size]; unfold maxS; omega)
/-- The line ahead of a file's bytes. -/
def headL (f : F2) : List UInt8 := [102, 105, 108, 101, 32] ++ f.1 ++ [32] ++ Lib.decDigits f.2.length ++ [32] ++ hexP 8 (sumN 0 0 f.2) ++ [10]
theorem head_entry (acc : List UInt8) (f : F2) : acc ++ headL f ++ f.2 ++ [10] = acc ++ entryL f := by simp [headL, entryL]
theorem head_len (f : F2) (h : f.2.length ≤ 1000000) : (headL f).length ≤ f.1.length + 40 ∧ 0 < (headL f).length := by
  have := (digits_f f.2.length (by omega)).2
  simp only [headL, List.length_append, List.length_cons, List.length_nil, hexP_len]
  omega
theorem body_l (fs : List F2) (hn : fs.length ≤ 1000) (hs : szF fs ≤ 1000000) (κ : (List D × (List D × Int × Int × Unit)) → Option (List D × Int)) : ∀ (n i k : Nat) (acc : List UInt8), fs.length - i ≤ n → n < k → i ≤ fs.length → acc.length + szF (fs.drop i) + (fs.length - i) * 100 ≤ 100000000 →
    Gpaper_Pack.l506 k (fD fs) (bD acc, 0, 0, ()) (fD fs) (fs.length : Int) (i : Int) κ = κ (fD fs, (bD (acc ++ bodyL (fs.drop i)), 0, 0, ())) := by
  intro n
  induction n with
  | zero =>
    intro i k acc h1 h2 h3 h4
    obtain ⟨k, rfl⟩ : ∃ m, k = m + 1 := ⟨k - 1, by omega⟩
    rw [Gpaper_Pack.l506, dlt, decide_eq_false (by omega), cond_false, List.drop_eq_nil_of_le (by omega), bodyL, List.append_nil]
  | succ n ih =>
    intro i k acc h1 h2 h3 h4
    obtain ⟨k, rfl⟩ : ∃ m, k = m + 1 := ⟨k - 1, by omega⟩
    rw [Gpaper_Pack.l506, dlt]
    by_cases h : i < fs.length
    · have hsz := szF_mem (List.getElem_mem h)
      rw [List.drop_eq_getElem_cons h, szF] at h4
      generalize hf : fs[i] = f at *
      have hd := (digits_f f.2.length (by omega)).2
      obtain ⟨hh, hh0⟩ := head_len f (by omega)
      have hsm := sumN_lt f.2 0 0 (by decide)
      rw [decide_eq_true h, cond_true, gd_pos (inB_pos (by rw [fD_len]; omega)), toNat_nat, rd_fD h, hf, fE0, fE1, bD_len, str_file, gd_pos (sz_ok (by rw [toD_size]; simp; omega)), toD_app, str_sp, gd_pos (sz_ok (by rw [toD_size]; simp; omega)), toD_app, itoa_f _ (by omega), Option.bind_some, gd_pos (sz_ok (by rw [toD_size]; simp; omega)), toD_app, gd_pos (sz_ok (by rw [toD_size]; simp; omega)), toD_app, sum_f _ (by omega), Option.bind_some, hex_f _ hsm, Option.bind_some, gd_pos (sz_ok (by rw [toD_size, hexP_len]; simp; omega)), toD_app, str_nl, gd_pos (sz_ok (by rw [toD_size]; simp [hexP_len]; omega)), toD_app]
      rw [show [102, 105, 108, 101, 32] ++ f.1 ++ [32] ++ Lib.decDigits f.2.length ++ [32] ++ hexP 8 (sumN 0 0 f.2) ++ [10] = headL f from rfl, bput_f _ _ _ hh0 (by omega), Option.bind_some]
      simp only
      rw [bwrite_f _ _ _ (by rw [List.length_append]; omega), Option.bind_some]
      simp only
      rw [show (10 : Int) = ((10 : UInt8).toNat : Int) from rfl, bbyte_f _ _ _ (by rw [List.length_append, List.length_append]; omega), Option.bind_some]
      simp only
      have hel := entry_len (f := f) (by omega)
      rw [head_entry, w_succ _ (by omega), ih (i + 1) k _ (by omega) (by omega) (by omega) (by rw [List.length_append]; omega), List.drop_eq_getElem_cons h, hf, bodyL, List.append_assoc]
    · rw [decide_eq_false h, cond_false, List.drop_eq_nil_of_le (by omega), bodyL, List.append_nil]
theorem body_len : ∀ (fs : List F2), szF fs ≤ 1000000 → (bodyL fs).length ≤ szF fs + fs.length * 40
  | [], _ => Nat.zero_le _
  | f :: r, h => by
    rw [szF] at h
    have := entry_len (f := f) (by omega)
    have := body_len r (by omega)
    rw [bodyL, List.length_append, szF, List.length_cons]; omega
theorem pack_f (fs : List F2) (hn : fs.length ≤ 1000) (hs : szF fs ≤ 1000000) : Gpaper_Pack.f (fD fs) = some (packR fs) := by
  have hN := le_NN
  have hb := body_len fs hs
  have hd := (digits_f fs.length (by omega)).2
  unfold Gpaper_Pack.f packR
  rw [fD_len, show (0 : Int) = ((0 : Nat) : Int) from rfl, show ([] : List (D × D)) = seenD [] from rfl, names_l fs hn hs _ fs.length 0 NN [] (by omega) (by omega) (by omega) (by simp), List.drop_zero]
  by_cases he : errN [] fs = 0
  · rw [if_neg (by simpa using he), if_neg (by simpa using he), str_pk, show (([] : List D), ((0 : Nat) : Int), ((0 : Nat) : Int), ()) = (bD [], 0, 0, ()) from rfl, bput_f _ _ _ (by decide) (by decide), Option.bind_some]
    simp only
    rw [fD_len, List.nil_append, show (0 : Int) = ((0 : Nat) : Int) from rfl]
    refine (body_l fs hn hs _ fs.length 0 NN [112, 107, 49, 10] (by omega) (by omega) (by omega) (by simp; omega)).trans ?_
    rw [List.drop_zero]
    simp only
    rw [fD_len, itoa_f _ (by omega), Option.bind_some, str_end, gd_pos (sz_ok (by rw [toD_size]; simp; omega)), toD_app, str_nl, gd_pos (sz_ok (by rw [toD_size]; simp; omega)), toD_app, bput_f _ _ _ (by simp) (by simp; omega), Option.bind_some]
    simp only
    have e : [112, 107, 49, 10] ++ bodyL fs ++ ([101, 110, 100, 32] ++ Lib.decDigits fs.length ++ [10]) = packL fs := by simp [packL]
    rw [e, show (100 : Int) = ((100 : Nat) : Int) from rfl, dgt]
    have el : GBuffer_Len.f (bD (packL fs), 0, 0, ()) = some (((packL fs).length : Int), bD (packL fs), 0, 0, ()) := by
      unfold GBuffer_Len.f; simp only [bD_len]; rfl
    have eb : GBuffer_Bytes.f (bD (packL fs), 0, 0, ()) = some (bD (packL fs), ()) := rfl
    by_cases h1 : 100 < fs.length
    · rw [decide_eq_true h1, cond_true, if_pos (.inl h1)]
    · rw [decide_eq_false h1, cond_false, el, Option.bind_some]
      simp only
      rw [show (500000 : Int) = ((500000 : Nat) : Int) from rfl, dgt]
      by_cases h2 : 500000 < (packL fs).length
      · rw [decide_eq_true h2, cond_true, if_pos (.inr h2)]
      · rw [decide_eq_false h2, cond_false, if_neg (by omega), eb]; rfl
  · rw [if_pos he]; exact congrArg some (if_pos he).symm
theorem awake_f : Gw28_awake.f = some true := by
  unfold Gw28_awake.f
  rw [show ([.s str61, .s str62, .s str63] : List D) = wD [[97], [98], [99]] from rfl, spread_f [[97], [98], [99]] 8 (by decide) (by decide), Option.bind_some, show ([] : List D) = fD [] from rfl, pack_f [] (by decide) (by decide), Option.bind_some]
  have e1 : spreadR [[97], [98], [99]] 8 = (toD [97, 32, 32, 98, 32, 32, 32, 99], 0) := by decide
  have e2 : packR [] = (bD [112, 107, 49, 10, 101, 110, 100, 32, 48, 10], 0) := by
    have : packL [] = [112, 107, 49, 10, 101, 110, 100, 32, 48, 10] := by
      unfold packL bodyL
      rw [Lib.decDigits]; rfl
    unfold packR
    rw [this]; rfl
  rw [e1, e2]
  simp only
  rw [bstr_bD, show str6120206220202063 = toD [97, 32, 32, 98, 32, 32, 32, 99] from rfl, show str706b310a656e6420300a = toD [112, 107, 49, 10, 101, 110, 100, 32, 48, 10] from rfl, toD_beq, toD_beq, toD_size]
  rfl
end Go.Pv

namespace Go.Pv
set_option maxRecDepth 20000
theorem eqb_l (l : List D) (hn : l.length ≤ 1000000000000000) (κ : Unit → Option Bool) : ∀ (n i k : Nat), l.length - i ≤ n → n < k → i ≤ l.length → Gr00_EqBytes.l58 k l l (i : Int) κ = κ () := by
  intro n
  induction n with
  | zero =>
    intro i k h1 h2 h3
    obtain ⟨k, rfl⟩ : ∃ m, k = m + 1 := ⟨k - 1, by omega⟩
    rw [Gr00_EqBytes.l58, dlt, decide_eq_false (by omega), cond_false]
  | succ n ih =>
    intro i k h1 h2 h3
    obtain ⟨k, rfl⟩ : ∃ m, k = m + 1 := ⟨k - 1, by omega⟩
    rw [Gr00_EqBytes.l58, dlt]
    by_cases h : i < l.length
    · have e : ((rd l ((i : Int)).toNat).int != (rd l ((i : Int)).toNat).int) = false := by simp
      rw [decide_eq_true h, cond_true, gd_pos (inB_pos (by omega)), gd_pos (inB_pos (by omega)), e, cond_false, w_succ _ (by omega), ih (i + 1) k (by omega) (by omega) (by omega)]
    · rw [decide_eq_false h, cond_false]
theorem eqb_self (l : List D) (hn : l.length ≤ 1000000000000000) : Gr00_EqBytes.f l l = some true := by
  have hN := le_NN
  unfold Gr00_EqBytes.f
  rw [show ((l.length : Int) != (l.length : Int)) = false by simp, cond_false, show (0 : Int) = ((0 : Nat) : Int) from rfl, eqb_l l hn _ l.length 0 NN (by omega) (by omega) (by omega)]
theorem twice_l (fs : List F2) (i : Nat) (hi : i < fs.length) (hn : fs.length ≤ 1000) (out : List D) (κ : (List D × List D × Int × D) → Option (List D × Int)) : ∀ (n j k : Nat), i - j ≤ n → n < k → j ≤ i →
    Gr28_Pack.l29850 k (fD fs) out (i : Int) (fE fs[i]) (j : Int) κ = if (((fs.take i).drop j).map Prod.fst).contains fs[i].1 then some ([], 6) else κ (fD fs, out, (i : Int), fE fs[i]) := by
  intro n
  induction n with
  | zero =>
    intro j k h1 h2 h3
    obtain ⟨k, rfl⟩ : ∃ m, k = m + 1 := ⟨k - 1, by omega⟩
    rw [Gr28_Pack.l29850, dlt, decide_eq_false (by omega), cond_false, List.drop_eq_nil_of_le (by rw [List.length_take]; omega)]; rfl
  | succ n ih =>
    intro j k h1 h2 h3
    obtain ⟨k, rfl⟩ : ∃ m, k = m + 1 := ⟨k - 1, by omega⟩
    rw [Gr28_Pack.l29850, dlt]
    by_cases h : j < i
    · have hj : j < fs.length := by omega
      have ht : j < (fs.take i).length := by rw [List.length_take]; omega
      rw [decide_eq_true h, cond_true, gd_pos (inB_pos (by rw [fD_len]; omega)), toNat_nat, rd_fD hj, fE0, fE0, toD_beq, List.drop_eq_getElem_cons ht, List.map_cons, List.contains_cons, List.getElem_take]
      by_cases he : fs[j].1 = fs[i].1
      · rw [decide_eq_true he, cond_true, show (fs[i].1 == fs[j].1) = true from beq_iff_eq.2 he.symm, Bool.true_or, if_pos rfl]
      · rw [decide_eq_false he, cond_false, show (fs[i].1 == fs[j].1) = false from beq_eq_false_iff_ne.2 (Ne.symm he), Bool.false_or, w_succ _ (by omega), ih (j + 1) k (by omega) (by omega) (by omega)]
    · rw [decide_eq_false h, cond_false, List.drop_eq_nil_of_le (by rw [List.length_take]; omega)]; rfl
theorem lim_ok {n : Nat} (h : n ≤ 1000000000) : Nat.ble n lim = true := lim_pos (by omega)
theorem rpack_l (fs : List F2) (hn : fs.length ≤ 1000) (hs : szF fs ≤ 1000000) (κ : (List D × List D) → Option (List D × Int)) : ∀ (n i k : Nat) (acc : List UInt8) (seen : List (List UInt8)), fs.length - i ≤ n → n < k → i ≤ fs.length → acc.length + szF (fs.drop i) + (fs.length - i) * 100 ≤ 100000000 →
    (∀ x, seen.contains x = ((fs.take i).map Prod.fst).contains x) →
    Gr28_Pack.l58 k (fD fs) (bD acc) (i : Int) κ = if errN seen (fs.drop i) ≠ 0 then some ([], errN seen (fs.drop i)) else κ (fD fs, bD (acc ++ bodyL (fs.drop i))) := by
  intro n
  induction n with
  | zero =>
    intro i k acc seen h1 h2 h3 h4 h5
    obtain ⟨k, rfl⟩ : ∃ m, k = m + 1 := ⟨k - 1, by omega⟩
    rw [Gr28_Pack.l58, fD_len, dlt, decide_eq_false (by omega), cond_false, List.drop_eq_nil_of_le (by omega), bodyL, List.append_nil]; rfl
  | succ n ih =>
    intro i k acc seen h1 h2 h3 h4 h5
    obtain ⟨k, rfl⟩ : ∃ m, k = m + 1 := ⟨k - 1, by omega⟩
    have hN := le_NN
    rw [Gr28_Pack.l58, fD_len, dlt]
    by_cases h : i < fs.length
    · have hsz := szF_mem (List.getElem_mem h)
      rw [List.drop_eq_getElem_cons h, szF] at h4
      have hd := (digits_f fs[i].2.length (by omega)).2
      obtain ⟨hh, hh0⟩ := head_len fs[i] (by omega)
      have hsm := sumN_lt fs[i].2 0 0 (by decide)
      have hel := entry_len (f := fs[i]) (by omega)
      rw [decide_eq_true h, cond_true, gd_pos (inB_pos (by omega)), toNat_nat, rd_fD h, fE0, rname_f _ (by omega), Option.bind_some, List.drop_eq_getElem_cons h, errN]
      cases hk : nameOk fs[i].1 with
      | false => rfl
      | true =>
        have et := twice_l fs i h hn (bD acc)
        rw [Bool.not_true, cond_false, if_neg (show ¬ (true = false) by decide), show (0 : Int) = ((0 : Nat) : Int) from rfl, et _ i 0 NN (by omega) (by omega) (by omega), List.drop_zero, ← h5]
        cases hc : seen.contains fs[i].1 with
        | true => rfl
        | false =>
          rw [if_neg (show ¬ (false = true) by decide), if_neg (show ¬ (false = true) by decide)]
          simp only
          rw [fE0, fE1, bD_len, str_file, gd_pos (sz_ok (by rw [toD_size]; simp; omega)), toD_app, str_sp, gd_pos (sz_ok (by rw [toD_size]; simp; omega)), toD_app, (digits_f _ (by omega)).1, Option.bind_some, gd_pos (sz_ok (by rw [toD_size]; simp; omega)), toD_app, gd_pos (sz_ok (by rw [toD_size]; simp; omega)), toD_app, rsum_f _ (by omega), Option.bind_some, rhex_f _ hsm, Option.bind_some, gd_pos (sz_ok (by rw [toD_size, hexP_len]; simp; omega)), toD_app, str_nl, gd_pos (sz_ok (by rw [toD_size]; simp [hexP_len]; omega)), toD_app]
          rw [show [102, 105, 108, 101, 32] ++ fs[i].1 ++ [32] ++ Lib.decDigits fs[i].2.length ++ [32] ++ hexP 8 (sumN 0 0 fs[i].2) ++ [10] = headL fs[i] from rfl, ubytes_bD, bD_len, bD_len, gd_pos (lim_ok (by omega)), bD_app, bD_len, gd_pos (lim_ok (by rw [List.length_append]; omega)), bD_app, bD_len, gd_pos (lim_ok (by rw [List.length_append, List.length_append]; simp; omega)), show ([.i 10] : List D) = bD [10] from rfl, bD_app, head_entry, w_succ _ (by omega)]
          rw [ih (i + 1) k _ (fs[i].1 :: seen) (by omega) (by omega) (by omega) (by rw [List.length_append]; omega) (fun x => ?_), bodyL, List.append_assoc]
          · rfl
          · rw [List.contains_cons, h5, List.take_add_one, List.getElem?_eq_getElem h, Option.toList_some, List.map_append, Bool.eq_iff_iff]
            simp only [Bool.or_eq_true, List.contains_iff_mem, List.mem_append, beq_iff_eq, List.map_cons, List.map_nil, List.mem_singleton]
            exact Or.comm
    · rw [decide_eq_false h, cond_false, List.drop_eq_nil_of_le (by omega), bodyL, List.append_nil]; rfl
theorem rpack_f (fs : List F2) (hn : fs.length ≤ 1000) (hs : szF fs ≤ 1000000) : Gr28_Pack.f (fD fs) = some (packR fs) := by
  have hN := le_NN
  have hb := body_len fs hs
  have hd := (digits_f fs.length (by omega)).2
  unfold Gr28_Pack.f packR
  rw [gd_pos (show Nat.blt 0 ([.i 112, .i 107, .i 49, .i 10] : List D).length = true from rfl), show (0 : Int) = ((0 : Nat) : Int) from rfl, show ([.i 112, .i 107, .i 49, .i 10] : List D) = bD [112, 107, 49, 10] from rfl, rpack_l fs hn hs _ fs.length 0 NN _ [] (by omega) (by omega) (by omega) (by rw [List.drop_zero]; simp; omega) (fun x => rfl), List.drop_zero]
  by_cases he : errN [] fs = 0
  · rw [if_neg (by simpa using he), if_neg (by simpa using he)]
    simp only
    have e : [112, 107, 49, 10] ++ bodyL fs ++ ([101, 110, 100, 32] ++ Lib.decDigits fs.length ++ [10]) = packL fs := by simp [packL]
    rw [fD_len, (digits_f _ (by omega)).1, Option.bind_some, str_end, gd_pos (sz_ok (by rw [toD_size]; simp; omega)), toD_app, str_nl, gd_pos (sz_ok (by rw [toD_size]; simp; omega)), toD_app, ubytes_bD, bD_len, bD_len, gd_pos (lim_ok (by simp; omega)), bD_app, e, bD_len, show (100 : Int) = ((100 : Nat) : Int) from rfl, dgt, show (500000 : Int) = ((500000 : Nat) : Int) from rfl, dgt]
    by_cases h1 : 100 < fs.length ∨ 500000 < (packL fs).length
    · have : (decide (100 < fs.length) || decide (500000 < (packL fs).length)) = true := by rw [Bool.or_eq_true, decide_eq_true_eq, decide_eq_true_eq]; exact h1
      rw [this, cond_true, if_pos h1]
    · have : (decide (100 < fs.length) || decide (500000 < (packL fs).length)) = false := by rw [Bool.or_eq_false_iff, decide_eq_false_iff_not, decide_eq_false_iff_not]; omega
      rw [this, cond_false, if_neg h1]
  · rw [if_pos (by simpa using he)]
    exact congrArg some (if_pos (by simpa using he)).symm
theorem packR_len (fs : List F2) (hs : szF fs ≤ 1000000) (hn : fs.length ≤ 1000) : (packR fs).1.length ≤ 1000000000 := by
  unfold packR
  split
  · exact Nat.zero_le _
  · split
    · exact Nat.zero_le _
    · rename_i h
      simp only [bD_len]; omega
/-- The law of packing. -/
theorem law_packs (fs : List F2) (hn : fs.length ≤ 140737488355328) (hw : ∀ f ∈ fs, f.1.length ≤ 140737488355328 ∧ f.2.length ≤ 140737488355328) : Gw28_PaperPacks.f (fD fs) = some true := by
  obtain ⟨b, hb, hl⟩ := large_f fs hn hw
  unfold Gw28_PaperPacks.f
  rw [hb, Option.bind_some]
  cases b with
  | true => rw [cond_true, awake_f]; rfl
  | false =>
    obtain ⟨h1, h2⟩ := hl rfl
    have h3 := packR_len fs (by omega) (by omega)
    rw [cond_false, pack_f fs (by omega) (by omega), Option.bind_some, rpack_f fs (by omega) (by omega), Option.bind_some, eqb_self _ (by omega), Option.bind_some]
    simp only [beq_self_eq_true, Bool.and_self, cond_true, awake_f, Option.bind_some]
end Go.Pv

namespace Go.Pv
set_option maxRecDepth 20000
/-! ### The reference: which words are words -/
theorem wrong_i (ws : List (List UInt8)) (i : Nat) (hi : i < ws.length) (hw : ws[i].length ≤ 1000000000000000) (κ : (List D × Int) → Option Int) : ∀ (n j k : Nat), ws[i].length - j ≤ n → n < k → j ≤ ws[i].length →
    Gr28_wrong.l7458 k (wD ws) (i : Int) (j : Int) κ = if (ws[i].drop j).any offU then some 3 else κ (wD ws, (i : Int)) := by
  have hin : inB (i : Int) (wD ws).length = true := inB_pos (by rw [wD_len]; omega)
  intro n
  induction n with
  | zero =>
    intro j k h1 h2 h3
    obtain ⟨k, rfl⟩ : ∃ m, k = m + 1 := ⟨k - 1, by omega⟩
    rw [Gr28_wrong.l7458, gd_pos hin, toNat_nat, rd_wD hi, toD_size, dlt, decide_eq_false (by omega), cond_false, List.drop_eq_nil_of_le (by omega)]; rfl
  | succ n ih =>
    intro j k h1 h2 h3
    obtain ⟨k, rfl⟩ : ∃ m, k = m + 1 := ⟨k - 1, by omega⟩
    rw [Gr28_wrong.l7458, gd_pos hin, toNat_nat, rd_wD hi, toD_size, dlt]
    by_cases h : j < ws[i].length
    · rw [decide_eq_true h, cond_true, gd_pos hin, gd_pos (inB_pos (by omega)), toNat_nat, bt_toD h, word_f, Option.bind_some, Bool.not_not, List.drop_eq_getElem_cons h, List.any_cons]
      cases hc : offU ws[i][j] with
      | true => rw [cond_true, Bool.true_or, if_pos rfl]
      | false => rw [cond_false, Bool.false_or, w_succ _ (by omega), ih (j + 1) k (by omega) (by omega) (by omega)]
    · rw [decide_eq_false h, cond_false, List.drop_eq_nil_of_le (by omega)]; rfl
theorem wrong_l (ws : List (List UInt8)) (hn : ws.length ≤ 1000000) (hw : ∀ w ∈ ws, w.length ≤ 1000000000) (κ : Unit → Option Int) : ∀ (n i k : Nat), ws.length - i ≤ n → n < k → i ≤ ws.length →
    Gr28_wrong.l58 k (wD ws) (i : Int) κ = if (ws.drop i).any badW then some 3 else κ () := by
  intro n
  induction n with
  | zero =>
    intro i k h1 h2 h3
    obtain ⟨k, rfl⟩ : ∃ m, k = m + 1 := ⟨k - 1, by omega⟩
    rw [Gr28_wrong.l58, wD_len, dlt, decide_eq_false (by omega), cond_false, List.drop_eq_nil_of_le (by omega)]; rfl
  | succ n ih =>
    intro i k h1 h2 h3
    obtain ⟨k, rfl⟩ : ∃ m, k = m + 1 := ⟨k - 1, by omega⟩
    have hN := le_NN
    rw [Gr28_wrong.l58, wD_len, dlt]
    by_cases h : i < ws.length
    · have hl := hw _ (List.getElem_mem h)
      rw [decide_eq_true h, cond_true, show (0 : Int) = ((0 : Nat) : Int) from rfl, wrong_i ws i h (by omega) _ ws[i].length 0 NN (by omega) (by omega) (by omega), List.drop_zero, List.drop_eq_getElem_cons h, List.any_cons, badW]
      simp only
      rw [gd_pos (inB_pos (by rw [wD_len]; omega)), toNat_nat, rd_wD h, strNil_eq, toD_beq, w_succ _ (by omega), ih (i + 1) k (by omega) (by omega) (by omega)]
      cases hc : ws[i].any offU with
      | true => rw [if_pos rfl, Bool.or_true, Bool.true_or, if_pos rfl]
      | false =>
        rw [if_neg (by decide), Bool.or_false]
        by_cases he : ws[i] = []
        · rw [decide_eq_true he, cond_true, he, List.isEmpty_nil, Bool.true_or, if_pos rfl]
        · have : ws[i].isEmpty = false := by rw [List.isEmpty_eq_false_iff]; exact he
          rw [decide_eq_false he, cond_false, this, Bool.false_or]
    · rw [decide_eq_false h, cond_false, List.drop_eq_nil_of_le (by omega)]; rfl
theorem wrong_f (ws : List (List UInt8)) (width : Int) (hn : ws.length ≤ 1000000) (hw : ∀ w ∈ ws, w.length ≤ 1000000000) : Gr28_wrong.f (wD ws) width = some (errOf ws width) := by
  have hN := le_NN
  unfold Gr28_wrong.f errOf
  by_cases h : width < 1 ∨ 200 < width
  · have : (decide (width < 1) || decide (width > 200)) = true := by rw [Bool.or_eq_true, decide_eq_true_eq, decide_eq_true_eq]; exact h
    rw [this, cond_true, if_pos h]
  · have : (decide (width < 1) || decide (width > 200)) = false := by rw [Bool.or_eq_false_iff, decide_eq_false_iff_not, decide_eq_false_iff_not]; omega
    rw [this, cond_false, if_neg h, show (0 : Int) = ((0 : Nat) : Int) from rfl, wrong_l ws hn hw _ ws.length 0 NN (by omega) (by omega) (by omega), List.drop_zero]
    cases ws.any badW <;> rfl
/-! ### The reference: joined, blanks, spread -/
theorem joined_l (ws : List (List UInt8)) (hn : ws.length ≤ 1000000) (hs : sumL ws ≤ 1000000000) (κ : ByteArray → Option ByteArray) : ∀ (n i k : Nat), ws.length - i ≤ n → n < k → i ≤ ws.length →
    Gr28_joined.l58 k (wD ws) (toD (joinL (ws.take i))) (i : Int) κ = κ (toD (joinL ws)) := by
  intro n
  induction n with
  | zero =>
    intro i k h1 h2 h3
    obtain ⟨k, rfl⟩ : ∃ m, k = m + 1 := ⟨k - 1, by omega⟩
    rw [Gr28_joined.l58, wD_len, dlt, decide_eq_false (by omega), cond_false, List.take_of_length_le (by omega)]
  | succ n ih =>
    intro i k h1 h2 h3
    obtain ⟨k, rfl⟩ : ∃ m, k = m + 1 := ⟨k - 1, by omega⟩
    rw [Gr28_joined.l58, wD_len, dlt]
    by_cases h : i < ws.length
    · have hin : inB (i : Int) (wD ws).length = true := inB_pos (by rw [wD_len]; omega)
      have ht := sumL_take ws i
      have hm := sumL_mem (List.getElem_mem h)
      have hj := joinL_len (ws.take i)
      have hl : (ws.take i).length = i := by rw [List.length_take]; omega
      have et : ws.take (i + 1) = ws.take i ++ [ws[i]] := by rw [List.take_add_one, List.getElem?_eq_getElem h]; rfl
      have hI := ih (i + 1) k (by omega) (by omega) (by omega)
      rw [decide_eq_true h, cond_true, show (0 : Int) = ((0 : Nat) : Int) from rfl, dgt]
      by_cases h0 : 0 < i
      · rw [decide_eq_true h0, cond_true, str_sp, gd_pos (sz_ok (by rw [toD_size]; simp; omega)), toD_app]
        unfold Gr28_joined.p1865
        rw [gd_pos hin, toNat_nat, rd_wD h, gd_pos (sz_ok (by rw [toD_size]; simp; omega)), toD_app]
        simp only
        rw [w_succ _ (by omega), show joinL (ws.take i) ++ [32] ++ ws[i] = joinL (ws.take (i + 1)) by rw [et, joinL_snoc _ _ (fun e => by rw [e] at hl; simp at hl; omega)]; simp]
        exact hI
      · obtain rfl : i = 0 := by omega
        rw [decide_eq_false h0, cond_false]
        unfold Gr28_joined.p1865
        rw [gd_pos hin, toNat_nat, rd_wD h, gd_pos (sz_ok (by rw [toD_size, List.take_zero, joinL_nil]; simp; omega)), toD_app]
        simp only
        rw [w_succ _ (by omega), show joinL (ws.take 0) ++ ws[0] = joinL (ws.take (0 + 1)) by rw [et, List.take_zero, joinL_nil, List.nil_append, List.nil_append, joinL_one]]
        exact hI
    · rw [decide_eq_false h, cond_false, List.take_of_length_le (by omega)]
theorem joined_f (ws : List (List UInt8)) (hn : ws.length ≤ 1000000) (hs : sumL ws ≤ 1000000000) : Gr28_joined.f (wD ws) = some (toD (joinL ws)) := by
  have hN := le_NN
  unfold Gr28_joined.f
  have := joined_l ws hn hs (fun y3 => some y3) ws.length 0 NN (by omega) (by omega) (by omega)
  rw [List.take_zero, joinL_nil] at this
  exact this
theorem blanks_l (N : Nat) (hN : N ≤ 1000000) (κ : ByteArray → Option ByteArray) : ∀ (n i k : Nat), N - i ≤ n → n < k → i ≤ N →
    Gr28_blanks.l58 k (N : Int) (toD (List.replicate i 32)) (i : Int) κ = κ (toD (List.replicate N 32)) := by
  intro n
  induction n with
  | zero =>
    intro i k h1 h2 h3
    obtain ⟨k, rfl⟩ : ∃ m, k = m + 1 := ⟨k - 1, by omega⟩
    rw [Gr28_blanks.l58, dlt, decide_eq_false (by omega), cond_false, show i = N by omega]
  | succ n ih =>
    intro i k h1 h2 h3
    obtain ⟨k, rfl⟩ : ∃ m, k = m + 1 := ⟨k - 1, by omega⟩
    rw [Gr28_blanks.l58, dlt]
    by_cases h : i < N
    · rw [decide_eq_true h, cond_true, str_sp, gd_pos (sz_ok (by rw [toD_size, List.length_replicate]; simp; omega)), toD_app, w_succ _ (by omega), ← List.replicate_succ', ih (i + 1) k (by omega) (by omega) (by omega)]
    · rw [decide_eq_false h, cond_false, show i = N by omega]
theorem blanks_f (N : Nat) (hN : N ≤ 1000000) : Gr28_blanks.f (N : Int) = some (toD (List.replicate N 32)) := by
  have h := le_NN
  unfold Gr28_blanks.f
  exact blanks_l N hN _ N 0 NN (by omega) (by omega) (by omega)
theorem spT_zero (g : Nat) : ∀ (ws : List (List UInt8)) (i : Nat), i + ws.length ≤ g + 1 → spT g 0 i ws = joinL ws
  | [], _, _ => rfl
  | [w], _, _ => by rw [joinL_one]; rfl
  | w :: x :: r, i, h => by
    simp only [List.length_cons] at h
    rw [spT, spT_zero g (x :: r) (i + 1) (by simp only [List.length_cons]; omega), joinL_cons, Nat.zero_div, Nat.zero_mod, if_neg (by omega)]
    rfl
theorem spread_join {ws : List (List UInt8)} {width : Nat} (h : width ≤ (joinL ws).length ∨ ws.length ≤ 1) : spreadL ws width = joinL ws := by
  unfold spreadL
  rcases h with h | h
  · rw [show width - (joinL ws).length = 0 by omega, spT_zero _ _ _ (by omega)]
  · match ws, h with
    | [], _ => rfl
    | [w], _ => rw [joinL_one]; rfl
/-- What stands behind the i-th word. -/
def spB (ws : List (List UInt8)) (N i : Nat) : List UInt8 :=
  if i < ws.length then List.replicate (1 + N / (ws.length - 1) + (if ws.length - 1 - N % (ws.length - 1) ≤ i - 1 then 1 else 0)) 32 ++ spT (ws.length - 1) N i (ws.drop i) else []
theorem rspread_l (ws : List (List UInt8)) (N : Nat) (hN : N ≤ 200) (hn : ws.length ≤ 500) (hs : sumL ws ≤ 5000) (κ : ByteArray → Option ByteArray) : ∀ (n i k : Nat) (acc : List UInt8), ws.length - i ≤ n → n < k → 1 ≤ i → i ≤ ws.length → 2 ≤ ws.length → acc.length + sumL (ws.drop i) + (ws.length - i) * 300 ≤ 1000000 →
    Gr28_spread.l506 k (wD ws) (N : Int) ((ws.length - 1 : Nat) : Int) (toD acc) (i : Int) κ = κ (toD (acc ++ spB ws N i)) := by
  intro n
  induction n with
  | zero =>
    intro i k acc h1 h2 h3 h4 h5 hacc
    obtain ⟨k, rfl⟩ : ∃ m, k = m + 1 := ⟨k - 1, by omega⟩
    rw [Gr28_spread.l506, dle, decide_eq_false (by omega), cond_false, spB, if_neg (by omega), List.append_nil]
  | succ n ih =>
    intro i k acc h1 h2 h3 h4 h5 hacc
    obtain ⟨k, rfl⟩ : ∃ m, k = m + 1 := ⟨k - 1, by omega⟩
    rw [Gr28_spread.l506, dle]
    by_cases h : i < ws.length
    · rw [List.drop_eq_getElem_cons h, sumL_cons] at hacc
      have hi' : i ≤ ws.length - 1 := by omega
      have hI := fun acc' => ih (i + 1) k acc' (by omega) (by omega) (by omega) (by omega) h5
      have hB : spB ws N i = List.replicate (1 + N / (ws.length - 1) + (if ws.length - 1 - N % (ws.length - 1) ≤ i - 1 then 1 else 0)) 32 ++ (ws[i] ++ spB ws N (i + 1)) := by
        rw [spB, if_pos h, spB]
        congr 1
        by_cases hi : i + 1 < ws.length
        · rw [if_pos hi, Nat.add_sub_cancel, List.drop_eq_getElem_cons h, List.drop_eq_getElem_cons hi]; rfl
        · rw [if_neg hi, List.drop_eq_getElem_cons h, List.drop_eq_nil_of_le (by omega), List.append_nil]; rfl
      rw [decide_eq_true hi', cond_true, hB]
      generalize hG : ws.length - 1 = g at *
      have hg : 1 ≤ g := by omega
      have h0 : (!((g : Int) == 0)) = true := by rw [Bool.not_eq_true', beq_eq_false_iff_ne]; omega
      have hm : (N : Int).tmod (g : Int) = ((N % g : Nat) : Int) := rfl
      have hd : (N : Int).tdiv (g : Int) = ((N / g : Nat) : Int) := rfl
      have hml : N % g < g := Nat.mod_lt _ (by omega)
      have hdl : N / g ≤ N := Nat.div_le_self _ _
      rw [gd_pos h0, gd_pos h0, hm, hd]
      generalize N / g = q at *
      generalize N % g = r at *
      have hin : inB (i : Int) (wD ws).length = true := inB_pos (by rw [wD_len]; omega)
      rw [w64 ((g : Int) - (r : Int)) (by omega), w64 (q : Int) (by omega)]
      have put : ∀ m : Nat, m ≤ 300 → ∀ (κ0 : (List D × Int × Int × ByteArray × Int) → Option ByteArray) (z : Int), 1 + z = m → Gr28_spread.p32403 (wD ws) (N : Int) (g : Int) (toD acc) (i : Int) z κ0 = κ0 (wD ws, (N : Int), (g : Int), toD (acc ++ (List.replicate m 32 ++ ws[i])), (i : Int)) := fun m hm κ0 z hz => by
        unfold Gr28_spread.p32403
        rw [hz, w64 (m : Int) (by omega), blanks_f _ (by omega), Option.bind_some, gd_pos hin, toNat_nat, rd_wD h, gd_pos (sz_ok (by rw [toD_size, List.length_replicate]; omega)), toD_app, gd_pos (sz_ok (by rw [toD_size, List.length_append, List.length_replicate]; omega)), toD_app]
      have hmul : (ws.length - i) * 300 = (ws.length - (i + 1)) * 300 + 300 := by omega
      by_cases hc : g - r ≤ i - 1
      · rw [decide_eq_true (show (i : Int) > (g : Int) - (r : Int) by omega), cond_true, w64 ((q : Int) + 1) (by omega), put (1 + q + 1) (by omega) _ _ (by omega)]
        simp only
        rw [w_succ _ (by omega), hI _ (by rw [List.length_append, List.length_append, List.length_replicate]; omega), if_pos hc]
        simp only [List.append_assoc]
      · rw [decide_eq_false (show ¬ (i : Int) > (g : Int) - (r : Int) by omega), cond_false, put (1 + q + 0) (by omega) _ _ (by omega)]
        simp only
        rw [w_succ _ (by omega), hI _ (by rw [List.length_append, List.length_append, List.length_replicate]; omega), if_neg hc]
        simp only [List.append_assoc]
    · rw [decide_eq_false (by omega), cond_false, spB, if_neg (by omega), List.append_nil]
theorem rspread_f (ws : List (List UInt8)) (width : Nat) (hw : width ≤ 200) (hn : ws.length ≤ 500) (hs : sumL ws ≤ 5000) (hp : 1 ≤ ws.length) : Gr28_spread.f (wD ws) (width : Int) = some (toD (spreadL ws width)) := by
  have hN := le_NN
  have hj := joinL_len ws
  unfold Gr28_spread.f
  rw [joined_f ws (by omega) (by omega), Option.bind_some, toD_size, wD_len, w64 ((width : Int) - ((joinL ws).length : Int)) (by omega), w64 ((ws.length : Int) - 1) (by omega)]
  by_cases h : width ≤ (joinL ws).length ∨ ws.length ≤ 1
  · have : (decide ((width : Int) - ((joinL ws).length : Int) ≤ 0) || ((ws.length : Int) - 1 == 0)) = true := by
      rw [Bool.or_eq_true, decide_eq_true_eq, beq_iff_eq]; omega
    rw [this, cond_true, Option.bind_some, spread_join h]
  · have : (decide ((width : Int) - ((joinL ws).length : Int) ≤ 0) || ((ws.length : Int) - 1 == 0)) = false := by
      rw [Bool.or_eq_false_iff, decide_eq_false_iff_not, beq_eq_false_iff_ne]; omega
    have h0 : 0 < ws.length := by omega
    rw [this, cond_false, gd_pos (inB_pos (by omega)), show ((width : Int) - ((joinL ws).length : Int)) = ((width - (joinL ws).length : Nat) : Int) by omega, show ((ws.length : Int) - 1) = ((ws.length - 1 : Nat) : Int) by omega, rd_wD h0, show (1 : Int) = ((1 : Nat) : Int) from rfl]
    have hm := sumL_mem (List.getElem_mem h0)
    have hdr := sumL_drop ws 1
    rw [rspread_l ws (width - (joinL ws).length) (by omega) hn hs _ ws.length 1 NN ws[0] (by omega) (by omega) (by omega) (by omega) (by omega) (by omega)]
    congr 2
    unfold spreadL spB
    rw [if_pos (by omega)]
    match ws, h0 with
    | [], hx => exact absurd hx (by simp)
    | [w], _ => exact absurd (.inr (by simp)) h
    | w :: x :: r, _ => rfl
end Go.Pv

namespace Go.Pv
set_option maxRecDepth 20000
/-- How many words more go into a line that is c bytes long. -/
def fitG (width : Nat) : Nat → List (List UInt8) → Nat
  | _, [] => 0
  | c, w :: r => if c + 1 + w.length ≤ width then fitG width (c + 1 + w.length) r + 1 else 0
theorem fitG_le (width : Nat) : ∀ (r : List (List UInt8)) (c : Nat), fitG width c r ≤ r.length
  | [], _ => Nat.le_refl _
  | w :: r, c => by
    rw [fitG]
    split
    · have := fitG_le width r (c + 1 + w.length); simp only [List.length_cons]; omega
    · exact Nat.zero_le _
/-- A line of words. -/
def lineL (width : Nat) (wide : Bool) (ws : List (List UInt8)) : List UInt8 := bif wide then spreadL ws width else joinL ws
/-- All groups of words that go into lines. -/
def grpF (width : Nat) : Nat → List (List UInt8) → List (List (List UInt8))
  | 0, _ => []
  | _ + 1, [] => []
  | f + 1, w :: r => (w :: r.take (fitG width w.length r)) :: grpF width f (r.drop (fitG width w.length r))
def grpL (width : Nat) (ws : List (List UInt8)) : List (List (List UInt8)) := grpF width ws.length ws
/-- The lines of groups: the last one is not spread. -/
def linesL (width : Nat) (wide : Bool) : List (List (List UInt8)) → List (List UInt8)
  | [] => []
  | [g] => [joinL g]
  | g :: h :: r => lineL width wide g :: linesL width wide (h :: r)
theorem linesL_len (width : Nat) (wide : Bool) : ∀ l, (linesL width wide l).length = l.length
  | [] => rfl
  | [g] => rfl
  | g :: h :: r => by rw [linesL, List.length_cons, linesL_len width wide (h :: r)]; rfl
theorem grpF_fuel (width : Nat) : ∀ (f f' : Nat) (ws : List (List UInt8)), ws.length ≤ f → ws.length ≤ f' → grpF width f ws = grpF width f' ws
  | 0, 0, _, _, _ => rfl
  | 0, f' + 1, [], _, _ => rfl
  | 0, f' + 1, w :: r, h, _ => by simp at h
  | f + 1, 0, [], _, _ => rfl
  | f + 1, 0, w :: r, _, h => by simp at h
  | f + 1, f' + 1, [], _, _ => rfl
  | f + 1, f' + 1, w :: r, h1, h2 => by
    simp only [List.length_cons] at h1 h2
    rw [grpF, grpF, grpF_fuel width f f' _ (by rw [List.length_drop]; omega) (by rw [List.length_drop]; omega)]
theorem grpL_nil (width : Nat) : grpL width [] = [] := rfl
theorem grpL_cons (width : Nat) (w : List UInt8) (r : List (List UInt8)) : grpL width (w :: r) = (w :: r.take (fitG width w.length r)) :: grpL width (r.drop (fitG width w.length r)) := by
  unfold grpL
  rw [List.length_cons, grpF]
  congr 1
  exact grpF_fuel width _ _ _ (by rw [List.length_drop]; omega) (Nat.le_refl _)
theorem grp_len (width : Nat) : ∀ (f : Nat) (ws : List (List UInt8)), ws.length ≤ f → (grpF width f ws).length ≤ ws.length
  | 0, ws, h => Nat.zero_le _
  | f + 1, [], _ => Nat.le_refl _
  | f + 1, w :: r, h => by
    simp only [List.length_cons] at h
    have := grp_len width f (r.drop (fitG width w.length r)) (by rw [List.length_drop]; omega)
    rw [List.length_drop] at this
    rw [grpF, List.length_cons, List.length_cons]; omega
/-! ### The reference -/
theorem fits_l (ws : List (List UInt8)) (width : Nat) (hw : width ≤ 200) (hn : ws.length ≤ 500) (hs : sumL ws ≤ 5000) (κ : Int → Option Int) : ∀ (n j k : Nat), ws.length - j ≤ n → n < k → 1 ≤ j → j ≤ ws.length →
    Gr28_fits.l28 k (wD ws) (width : Int) (j : Int) κ = κ ((j + fitG width (joinL (ws.take j)).length (ws.drop j) : Nat) : Int) := by
  intro n
  induction n with
  | zero =>
    intro j k h1 h2 h3 h4
    obtain ⟨k, rfl⟩ : ∃ m, k = m + 1 := ⟨k - 1, by omega⟩
    rw [Gr28_fits.l28, wD_len, dlt, decide_eq_false (by omega), List.drop_eq_nil_of_le (by omega)]
    rfl
  | succ n ih =>
    intro j k h1 h2 h3 h4
    obtain ⟨k, rfl⟩ : ∃ m, k = m + 1 := ⟨k - 1, by omega⟩
    rw [Gr28_fits.l28, wD_len, dlt]
    by_cases h : j < ws.length
    · have ht := sumL_take ws (j + 1)
      have hl : (ws.take j).length = j := by rw [List.length_take]; omega
      have et : ws.take (j + 1) = ws.take j ++ [ws[j]] := by rw [List.take_add_one, List.getElem?_eq_getElem h]; rfl
      have ej : (joinL (ws.take (j + 1))).length = (joinL (ws.take j)).length + 1 + ws[j].length := by
        rw [et, joinL_snoc _ _ (fun e => by rw [e] at hl; simp at hl; omega), List.length_append, List.length_cons]; omega
      rw [decide_eq_true h, w_succ _ (by omega), dle, decide_eq_true (show j + 1 ≤ ws.length by omega), decide_eq_true (show (0 : Int) ≤ ((j + 1 : Nat) : Int) by omega), gd_pos (show (!true || true && true) = true from rfl), cond_true, toNat_nat, wD_take, joined_f _ (by rw [List.length_take]; omega) (by omega), Option.bind_some, toD_size, ej, dle, Bool.true_and, List.drop_eq_getElem_cons h, fitG]
      by_cases hc : (joinL (ws.take j)).length + 1 + ws[j].length ≤ width
      · rw [decide_eq_true hc, cond_true, if_pos hc, ih (j + 1) k (by omega) (by omega) (by omega) (by omega), ej]
        congr 1; omega
      · rw [decide_eq_false hc, cond_false, if_neg hc, Nat.add_zero]
    · rw [decide_eq_false h, List.drop_eq_nil_of_le (by omega)]
      rfl
theorem fits_f (w : List UInt8) (r : List (List UInt8)) (width : Nat) (hw : width ≤ 200) (hn : (w :: r).length ≤ 500) (hs : sumL (w :: r) ≤ 5000) : Gr28_fits.f (wD (w :: r)) (width : Int) = some ((1 + fitG width w.length r : Nat) : Int) := by
  have hN := le_NN
  unfold Gr28_fits.f
  have := fits_l (w :: r) width hw hn hs (fun y2 => some y2) (w :: r).length 1 NN (by omega) (by omega) (by omega) (by simp)
  rw [show (w :: r).take 1 = [w] from rfl, joinL_one] at this
  exact this
theorem rfill_l (width : Nat) (hw1 : 1 ≤ width) (hw : width ≤ 200) (wide : Bool) (κ : List D → Option (List D × Int)) : ∀ (n k : Nat) (ws acc : List (List UInt8)), ws.length ≤ n → n < k → ws.length ≤ 500 → sumL ws ≤ 5000 → acc.length + ws.length ≤ 1000 →
    Gr28_Fill.l124 k (wD ws) (width : Int) wide (wD acc) κ = κ (wD (acc ++ linesL width wide (grpL width ws))) := by
  intro n
  induction n with
  | zero =>
    intro k ws acc h1 h2 h3 h4 h5
    obtain ⟨k, rfl⟩ : ∃ m, k = m + 1 := ⟨k - 1, by omega⟩
    obtain rfl : ws = [] := List.eq_nil_of_length_eq_zero (by omega)
    rw [Gr28_Fill.l124, grpL_nil, linesL, List.append_nil]; rfl
  | succ n ih =>
    intro k ws acc h1 h2 h3 h4 h5
    obtain ⟨k, rfl⟩ : ∃ m, k = m + 1 := ⟨k - 1, by omega⟩
    match ws with
    | [] => rw [Gr28_Fill.l124, grpL_nil, linesL, List.append_nil]; rfl
    | w :: r =>
      have hf := fitG_le width r w.length
      have hst := sumL_take (w :: r) (1 + fitG width w.length r)
      have hsd := sumL_drop (w :: r) (1 + fitG width w.length r)
      have e1 : (w :: r).take (1 + fitG width w.length r) = w :: r.take (fitG width w.length r) := by rw [Nat.add_comm]; rfl
      have e2 : (w :: r).drop (1 + fitG width w.length r) = r.drop (fitG width w.length r) := by rw [Nat.add_comm]; rfl
      rw [e1] at hst
      rw [e2] at hsd
      have hle : decide (((1 + fitG width w.length r : Nat) : Int) ≤ ((w :: r).length : Int)) = true := decide_eq_true (by simp only [List.length_cons]; omega)
      have hg0 : (decide ((0 : Int) ≤ ((1 + fitG width w.length r : Nat) : Int)) && decide (((1 + fitG width w.length r : Nat) : Int) ≤ ((w :: r).length : Int))) = true := by
        rw [hle, decide_eq_true (by omega)]; rfl
      have hlt : (w :: r.take (fitG width w.length r)).length ≤ 500 := by
        simp only [List.length_cons, List.length_take] at h3 ⊢; omega
      have hI := fun acc' => ih k (r.drop (fitG width w.length r)) acc' (by rw [List.length_drop]; simp only [List.length_cons] at h1; omega) (by omega) (by rw [List.length_drop]; simp only [List.length_cons] at h3; omega) (by omega)
      have put : ∀ (x : List UInt8), (gd (Nat.ble ((wD acc).length + ([.s (toD x)] : List D).length) lim) (Gr28_Fill.p3979 (wD (w :: r)) (width : Int) wide ((wD acc) ++ ([.s (toD x)] : List D)) ((1 + fitG width w.length r : Nat) : Int) (fun y4 => Gr28_Fill.l124 k y4.1 y4.2.1 y4.2.2.1 y4.2.2.2 κ))) = κ (wD (acc ++ x :: linesL width wide (grpL width (r.drop (fitG width w.length r))))) := fun x => by
        unfold Gr28_Fill.p3979
        rw [wD_len, gd_pos (lim_pos (by simp only [List.length_cons, List.length_nil]; omega)), wD_len, gd_pos hg0, toNat_nat, wD_drop, e2, wD_one, wD_app]
        simp only
        rw [hI (acc ++ [x]) (by rw [List.length_append, List.length_drop]; simp only [List.length_cons, List.length_nil] at h5 ⊢; omega), List.append_assoc, List.singleton_append]
      rw [Gr28_Fill.l124, wD_len, decide_eq_true (show (((w :: r).length : Nat) : Int) > 0 by simp only [List.length_cons]; omega), cond_true, fits_f w r width hw h3 h4, Option.bind_some, gd_pos hg0, gd_pos hg0, toNat_nat, wD_take, e1, rspread_f _ width hw hlt (by omega) (by simp), Option.bind_some, put, joined_f _ (by omega) (by omega), Option.bind_some, put, dlt, grpL_cons]
      by_cases hc : 1 + fitG width w.length r < (w :: r).length
      · have hd : r.drop (fitG width w.length r) ≠ [] := fun e => by
          have := congrArg List.length e
          rw [List.length_drop] at this
          simp only [List.length_cons, List.length_nil] at hc this; omega
        obtain ⟨x, q, hq⟩ : ∃ x q, grpL width (r.drop (fitG width w.length r)) = x :: q := by
          match hm : r.drop (fitG width w.length r), hd with
          | a :: b, _ => rw [grpL_cons]; exact ⟨_, _, rfl⟩
        rw [decide_eq_true hc, Bool.and_true, hq, linesL, lineL]
        cases wide <;> rfl
      · have hd : r.drop (fitG width w.length r) = [] := List.drop_eq_nil_of_le (by simp only [List.length_cons] at hc; omega)
        rw [decide_eq_false hc, Bool.and_false, cond_false, hd, grpL_nil]; rfl
/-- What Fill answers. -/
def fillR (ws : List (List UInt8)) (width : Int) (wide : Bool) : List (List UInt8) × Int := if errOf ws width ≠ 0 then ([], errOf ws width) else (linesL width.toNat wide (grpL width.toNat ws), 0)
theorem rfill_f (ws : List (List UInt8)) (width : Int) (wide : Bool) (hn : ws.length ≤ 500) (hs : sumL ws ≤ 5000) : Gr28_Fill.f (wD ws) width wide = some (wD (fillR ws width wide).1, (fillR ws width wide).2) := by
  have hN := le_NN
  unfold Gr28_Fill.f fillR
  rw [wrong_f ws width (by omega) (fun w hw => by have := sumL_mem hw; omega), Option.bind_some]
  by_cases he : errOf ws width = 0
  · obtain ⟨w1, w2, -⟩ := err_width he
    rw [show (errOf ws width != 0) = false by rw [he]; rfl, cond_false, if_neg (by simpa using he), show width = ((width.toNat : Nat) : Int) by omega, toNat_nat]
    exact rfill_l width.toNat (by omega) (by omega) wide _ ws.length NN ws [] (Nat.le_refl _) (by omega) hn hs (by simp; omega)
  · rw [show (errOf ws width != 0) = true by rw [bne_iff_ne]; exact he, cond_true, if_pos he]; rfl
theorem rspreadR_f (ws : List (List UInt8)) (width : Int) (hn : ws.length ≤ 500) (hs : sumL ws ≤ 5000) : Gr28_Spread.f (wD ws) width = some (spreadR ws width) := by
  unfold Gr28_Spread.f spreadR
  rw [wrong_f ws width (by omega) (fun w hw => by have := sumL_mem hw; omega), Option.bind_some]
  by_cases he : errOf ws width = 0
  · obtain ⟨w1, w2, -⟩ := err_width he
    rw [show (errOf ws width != 0) = false by rw [he]; rfl, cond_false, if_neg (by simpa using he), wD_len]
    by_cases h0 : ws = []
    · subst h0
      rw [if_pos rfl]; rfl
    · have hp : 0 < ws.length := List.length_pos_iff.2 h0
      have e := rspread_f ws width.toNat (by omega) hn hs (by omega)
      rw [show ((width.toNat : Nat) : Int) = width by omega] at e
      rw [if_neg h0, show ((ws.length : Int) == 0) = false by rw [beq_eq_false_iff_ne]; omega, cond_false, e, Option.bind_some]
  · rw [show (errOf ws width != 0) = true by rw [bne_iff_ne]; exact he, cond_true, if_pos he]
/-! ### The program -/
/-- Lines and the words of the line that is being filled, behind some words more. -/
def stepS (width : Nat) (wide : Bool) : List (List UInt8) → List (List UInt8) → List (List UInt8) → List (List UInt8) × List (List UInt8)
  | lines, cur, [] => (lines, cur)
  | lines, cur, w :: r => if cur ≠ [] ∧ width < (joinL cur).length + 1 + w.length then stepS width wide (lines ++ [lineL width wide cur]) [w] r else stepS width wide lines (cur ++ [w]) r
theorem step_grp (width : Nat) (wide : Bool) : ∀ (r lines cur : List (List UInt8)), cur ≠ [] →
    (stepS width wide lines cur r).2 ≠ [] ∧ (stepS width wide lines cur r).1 ++ [joinL (stepS width wide lines cur r).2] = lines ++ linesL width wide ((cur ++ r.take (fitG width (joinL cur).length r)) :: grpL width (r.drop (fitG width (joinL cur).length r)))
  | [], lines, cur, h => by
    rw [stepS, fitG]
    exact ⟨h, by simp [grpL_nil, linesL]⟩
  | w :: r, lines, cur, h => by
    rw [stepS, fitG]
    by_cases hc : width < (joinL cur).length + 1 + w.length
    · rw [if_pos ⟨h, hc⟩, if_neg (by omega)]
      obtain ⟨h1, h2⟩ := step_grp width wide r (lines ++ [lineL width wide cur]) [w] (by simp)
      refine ⟨h1, ?_⟩
      rw [h2, List.take_zero, List.append_nil, List.drop_zero, grpL_cons, joinL_one, linesL]
      simp
    · rw [if_neg (fun hh => hc hh.2), if_pos (by omega)]
      obtain ⟨h1, h2⟩ := step_grp width wide r lines (cur ++ [w]) (by simp)
      refine ⟨h1, ?_⟩
      rw [h2, joinL_snoc _ _ h, List.length_append, List.length_cons, show (joinL cur).length + (w.length + 1) = (joinL cur).length + 1 + w.length by omega, List.take_succ_cons, List.drop_succ_cons, List.append_assoc, List.singleton_append]
theorem fill_l (ws : List (List UInt8)) (width : Nat) (hw1 : 1 ≤ width) (hw : width ≤ 200) (wide : Bool) (hn : ws.length ≤ 500) (hs : sumL ws ≤ 5000) (hb : ∀ w ∈ ws, badW w = false) (κ : (List D × List D) → Option (List D × Int)) : ∀ (n i k : Nat) (lines cur : List (List UInt8)), ws.length - i ≤ n → n < k → i ≤ ws.length → lines.length ≤ i → cur.length ≤ i → sumL cur + sumL (ws.drop i) ≤ 5000 → (∀ w ∈ cur, badW w = false) →
    Gpaper_Fill.l250 k (width : Int) wide (wD lines) (wD cur) (wD ws) (ws.length : Int) (i : Int) κ = κ (wD (stepS width wide lines cur (ws.drop i)).1, wD (stepS width wide lines cur (ws.drop i)).2) := by
  intro n
  induction n with
  | zero =>
    intro i k lines cur h1 h2 h3 h4 h5 h6 h7
    obtain ⟨k, rfl⟩ : ∃ m, k = m + 1 := ⟨k - 1, by omega⟩
    rw [Gpaper_Fill.l250, dlt, decide_eq_false (by omega), cond_false, List.drop_eq_nil_of_le (by omega)]; rfl
  | succ n ih =>
    intro i k lines cur h1 h2 h3 h4 h5 h6 h7
    obtain ⟨k, rfl⟩ : ∃ m, k = m + 1 := ⟨k - 1, by omega⟩
    rw [Gpaper_Fill.l250, dlt]
    by_cases h : i < ws.length
    · rw [List.drop_eq_getElem_cons h, sumL_cons] at h6
      have hbw := hb _ (List.getElem_mem h)
      have hj := joinL_len cur
      have hcl : ([.s (toD ws[i])] : List D).length = 1 := rfl
      have last : ∀ (ln cu : List (List UInt8)), ln.length ≤ i + 1 → cu.length ≤ i → sumL cu ≤ sumL cur → (∀ w ∈ cu, badW w = false) →
          Gpaper_Fill.p32051 (width : Int) wide (wD ln) (wD cu) (toD ws[i]) (wD ws) (ws.length : Int) (i : Int) (fun y6 => Gpaper_Fill.l250 k y6.1 y6.2.1 y6.2.2.1 y6.2.2.2.1 y6.2.2.2.2.1 y6.2.2.2.2.2.1 (IntKind.i64.wrap (y6.2.2.2.2.2.2 + 1)) κ) = κ (wD (stepS width wide ln (cu ++ [ws[i]]) (ws.drop (i + 1))).1, wD (stepS width wide ln (cu ++ [ws[i]]) (ws.drop (i + 1))).2) := fun ln cu q1 q2 q3 q4 => by
        unfold Gpaper_Fill.p32051
        rw [wD_len, hcl, gd_pos (lim_pos (by omega)), wD_one, wD_app]
        simp only
        rw [w_succ _ (by omega), ih (i + 1) k ln (cu ++ [ws[i]]) (by omega) (by omega) (by omega) (by omega) (by rw [List.length_append, List.length_singleton]; omega) (by rw [sumL_app, sumL_cons, sumL_nil]; omega) (fun x hx => by
          rcases List.mem_append.1 hx with hx | hx
          · exact q4 x hx
          · obtain rfl := List.mem_singleton.1 hx; exact hbw)]
      rw [decide_eq_true h, cond_true, gd_pos (inB_pos (by rw [wD_len]; omega)), toNat_nat, rd_wD h, wD_len, toD_size, show (0 : Int) = ((0 : Nat) : Int) from rfl, dgt, List.drop_eq_getElem_cons h, stepS]
      by_cases hc : cur = []
      · subst hc
        rw [List.length_nil, decide_eq_false (by decide), cond_false, Option.bind_some, Bool.false_and, cond_false, if_neg (fun hh => hh.1 rfl)]
        exact last lines [] (by omega) (by simp) (Nat.le_refl _) (fun w hw => by cases hw)
      · have hp : 0 < cur.length := List.length_pos_iff.2 hc
        rw [decide_eq_true hp, cond_true, wide_f cur (by omega) (by omega), Option.bind_some, Bool.true_and, w64 (((joinL cur).length : Int) + 1) (by omega), w64 (((joinL cur).length : Int) + 1 + (ws[i].length : Int)) (by omega), show (((joinL cur).length : Int) + 1 + (ws[i].length : Int)) = (((joinL cur).length + 1 + ws[i].length : Nat) : Int) by omega, dgt]
        by_cases hl : width < (joinL cur).length + 1 + ws[i].length
        · have he : errOf cur (width : Int) = 0 := by
            unfold errOf
            rw [if_neg (by omega)]
            have : cur.any badW = false := by
              rw [List.any_eq_false]
              intro x hx; rw [h7 x hx]; decide
            rw [this]; rfl
          have hsp : spreadR cur (width : Int) = (toD (spreadL cur width), 0) := by
            unfold spreadR
            rw [if_neg (by simpa using he), if_neg hc, toNat_nat]
          rw [decide_eq_true hl, cond_true, if_pos ⟨hc, hl⟩, join_f cur (by omega) (by omega), Option.bind_some, spread_f cur _ (by omega) (by omega), hsp, Option.bind_some]
          have nx : ∀ ln : List UInt8, Gpaper_Fill.p512811 (width : Int) wide (wD lines) (toD ws[i]) (toD ln) (wD ws) (ws.length : Int) (i : Int) (fun y5 => Gpaper_Fill.p32051 y5.1 y5.2.1 y5.2.2.1 y5.2.2.2.1 y5.2.2.2.2.1 y5.2.2.2.2.2.1 y5.2.2.2.2.2.2.1 y5.2.2.2.2.2.2.2 (fun y6 => Gpaper_Fill.l250 k y6.1 y6.2.1 y6.2.2.1 y6.2.2.2.1 y6.2.2.2.2.1 y6.2.2.2.2.2.1 (IntKind.i64.wrap (y6.2.2.2.2.2.2 + 1)) κ)) = κ (wD (stepS width wide (lines ++ [ln]) [ws[i]] (ws.drop (i + 1))).1, wD (stepS width wide (lines ++ [ln]) [ws[i]] (ws.drop (i + 1))).2) := fun ln => by
            unfold Gpaper_Fill.p512811
            have hc2 : ([.s (toD ln)] : List D).length = 1 := rfl
            rw [wD_len, hc2, gd_pos (lim_pos (by omega)), wD_one, wD_app]
            exact last (lines ++ [ln]) [] (by rw [List.length_append, List.length_singleton]; omega) (by simp) (Nat.zero_le _) (fun w hw => by cases hw)
          cases wide with
          | true => rw [cond_true]; exact nx _
          | false => rw [cond_false]; exact nx _
        · rw [decide_eq_false hl, cond_false, if_neg (fun hh => hl hh.2)]
          exact last lines cur (by omega) h5 (Nat.le_refl _) h7
    · rw [decide_eq_false h, cond_false, List.drop_eq_nil_of_le (by omega)]; rfl
theorem step_len (width : Nat) (wide : Bool) : ∀ (r lines cur : List (List UInt8)), (stepS width wide lines cur r).1.length ≤ lines.length + r.length ∧ (stepS width wide lines cur r).2.length ≤ cur.length + r.length + 1 ∧ sumL (stepS width wide lines cur r).2 ≤ sumL cur + sumL r
  | [], lines, cur => by rw [stepS]; exact ⟨Nat.le_add_right _ _, (by show cur.length ≤ _; omega), Nat.le_add_right _ _⟩
  | w :: r, lines, cur => by
    rw [stepS]
    split
    · have := step_len width wide r (lines ++ [lineL width wide cur]) [w]
      rw [List.length_append, sumL_cons, sumL_nil] at this
      rw [sumL_cons, List.length_cons]
      simp only [List.length_cons, List.length_nil] at this
      omega
    · have := step_len width wide r lines (cur ++ [w])
      rw [List.length_append, sumL_app, sumL_cons, sumL_nil] at this
      rw [sumL_cons, List.length_cons]
      simp only [List.length_cons, List.length_nil] at this
      omega
theorem fill_f (ws : List (List UInt8)) (width : Int) (wide : Bool) (hn : ws.length ≤ 500) (hs : sumL ws ≤ 5000) : Gpaper_Fill.f (wD ws) width wide = some (wD (fillR ws width wide).1, (fillR ws width wide).2) := by
  have hN := le_NN
  unfold Gpaper_Fill.f fillR
  rw [examined_f ws width (by omega) (fun w hw => by have := sumL_mem hw; omega), Option.bind_some]
  by_cases he : errOf ws width = 0
  · obtain ⟨w1, w2, hb⟩ := err_width he
    rw [show (errOf ws width != 0) = false by rw [he]; rfl, cond_false, if_neg (by simpa using he), show width = ((width.toNat : Nat) : Int) by omega, toNat_nat, wD_len, show (0 : Int) = ((0 : Nat) : Int) from rfl]
    refine (fill_l ws width.toNat (by omega) (by omega) wide hn hs hb _ ws.length 0 NN [] [] (by omega) (by omega) (by omega) (by simp) (by simp) (by rw [List.drop_zero, sumL_nil]; omega) (fun w hw => by cases hw)).trans ?_
    rw [List.drop_zero]
    simp only
    match ws, hn, hs with
    | [], _, _ => rfl
    | w :: r, hn, hs =>
      have e0 : stepS width.toNat wide [] [] (w :: r) = stepS width.toNat wide [] [w] r := by
        rw [stepS, if_neg (fun hh => hh.1 rfl)]; rfl
      obtain ⟨h1, h2⟩ := step_grp width.toNat wide r [] [w] (by simp)
      obtain ⟨l1, l2, l3⟩ := step_len width.toNat wide r [] [w]
      rw [sumL_cons] at hs
      simp only [List.length_cons, List.length_nil] at hn l1 l2
      rw [sumL_cons, sumL_nil] at l3
      rw [e0, wD_len, decide_eq_true (show ((stepS width.toNat wide [] [w] r).2.length : Int) > ((0 : Nat) : Int) by have := List.length_pos_iff.2 h1; omega), cond_true, join_f _ (by omega) (by omega), Option.bind_some, wD_len, gd_pos (lim_pos (by simp only [List.length_cons, List.length_nil]; omega)), wD_one, wD_app, h2, joinL_one, List.nil_append, List.singleton_append, grpL_cons]
  · rw [show (errOf ws width != 0) = true by rw [bne_iff_ne]; exact he, cond_true, if_pos he]; rfl
theorem fillR_len (ws : List (List UInt8)) (width : Int) (wide : Bool) : (fillR ws width wide).1.length ≤ ws.length := by
  unfold fillR
  split
  · exact Nat.zero_le _
  · rw [linesL_len]; exact grp_len _ _ _ (Nat.le_refl _)
/-- The law of filling. -/
theorem law_fills (ws : List (List UInt8)) (width : Int) (wide : Bool) (hn : ws.length ≤ 140737488355328) (hw : ∀ w ∈ ws, w.length ≤ 140737488355328) : Gw28_PaperFills.f (wD ws) width wide = some true := by
  obtain ⟨b, hb, hl⟩ := many_f ws hn hw
  unfold Gw28_PaperFills.f
  rw [hb, Option.bind_some]
  cases b with
  | true => rw [cond_true, awake_f]; rfl
  | false =>
    obtain ⟨h1, h2⟩ := hl rfl
    have h3 := fillR_len ws width wide
    rw [cond_false, fill_f ws width wide h1 h2, Option.bind_some, rfill_f ws width wide h1 h2, Option.bind_some, spread_f ws width h1 h2, Option.bind_some, rspreadR_f ws width h1 h2, Option.bind_some]
    simp only
    rw [eqs_f _ _ (by omega), Option.bind_some]
    simp only [decide_true, beq_self_eq_true, Bool.and_self, cond_true, awake_f, Option.bind_some]
end Go.Pv

namespace Go.Pv
set_option maxRecDepth 20000
/-- The words of a text, the first of which has begun with cur. -/
def wordsA : List UInt8 → List UInt8 → List (List UInt8)
  | cur, [] => if cur = [] then [] else [cur]
  | cur, c :: r => if offU c then (if cur = [] then wordsA [] r else cur :: wordsA [] r) else wordsA (cur ++ [c]) r
abbrev wordsL (l : List UInt8) : List (List UInt8) := wordsA [] l
theorem words_lat : ∀ (l cur : List UInt8), wordsA cur (l.map latU) = wordsA cur l
  | [], _ => rfl
  | c :: r, cur => by
    rw [List.map_cons]
    unfold latU
    cases hc : offU c with
    | true => simp only [wordsA, if_true, off32, hc]; rw [show (fun c => if offU c = true then (32 : UInt8) else c) = latU from rfl, words_lat r []]
    | false =>
      simp only [wordsA, hc, Bool.false_eq_true, if_false]
      exact words_lat r _
theorem lat_ascii (l : List UInt8) : ∀ c ∈ l.map latU, c.toNat < 128 := by
  intro c hc
  obtain ⟨d, _, rfl⟩ := List.mem_map.1 hc
  unfold latU
  split
  · decide
  · rename_i h
    unfold offU at h
    simp only [Bool.or_eq_true, decide_eq_true_eq, not_or] at h
    omega
theorem decode_ascii (s : ByteArray) (p : Nat) (h : p < s.size) (ha : (s.data.toList[p]'(by rw [data_len]; exact h)).toNat < 128) : Utf8.decode s p = ((s.data.toList[p]'(by rw [data_len]; exact h)).toNat, 1) := by
  have hb := get_bang s p h
  unfold Utf8.decode
  simp only [Nat.add_zero, hb]
  rw [if_pos ha]
theorem ext_take (s : ByteArray) (a p : Nat) : s.extract a p = toD ((Lx s a).take (p - a)) := ext_eq s a p
theorem take_succ_lx (s : ByteArray) (a p : Nat) (hap : a ≤ p) (h : p < s.size) : (Lx s a).take (p + 1 - a) = (Lx s a).take (p - a) ++ [s.data.toList[p]'(by rw [data_len]; exact h)] := by
  have hl : p < s.data.toList.length := by rw [data_len]; exact h
  rw [show p + 1 - a = (p - a) + 1 by omega, List.take_add_one, List.getElem?_drop, show a + (p - a) = p by omega, List.getElem?_eq_getElem hl]; rfl
theorem spans_words (s : ByteArray) (ha : ∀ c ∈ s.data.toList, c.toNat < 128) : ∀ (f p : Nat) (st : Option Nat) (acc : List (Nat × Nat)), s.size - p ≤ f → p ≤ s.size → (∀ a, st = some a → a < p) →
    (Lib.closeSpans s (Lib.spansFromP offB s f p st acc)).map (fun x => s.extract x.1 x.2) = acc.map (fun x => s.extract x.1 x.2) ++ (wordsA (match st with | none => [] | some a => (Lx s a).take (p - a)) (Lx s p)).map toD := by
  have close : ∀ (p : Nat) (st : Option Nat) (acc : List (Nat × Nat)), p = s.size → (∀ a, st = some a → a < p) → (Lib.closeSpans s (acc, st)).map (fun x => s.extract x.1 x.2) = acc.map (fun x => s.extract x.1 x.2) ++ (wordsA (match st with | none => [] | some a => (Lx s a).take (p - a)) (Lx s p)).map toD := by
    intro p st acc hp hst
    rw [Lx_nil (by omega)]
    cases st with
    | none => simp [Lib.closeSpans, wordsA]
    | some a =>
      have hl := hst a rfl
      have hne : (Lx s a).take (p - a) ≠ [] := fun e => by
        have := congrArg List.length e
        rw [List.length_take, Lx_len, List.length_nil] at this; omega
      simp only [Lib.closeSpans, wordsA, if_neg hne, List.map_append, List.map_cons, List.map_nil]
      rw [ext_take, hp]
  intro f
  induction f with
  | zero =>
    intro p st acc h1 h2 h3
    exact close p st acc (by omega) h3
  | succ f ih =>
    intro p st acc h1 h2 h3
    by_cases h : p < s.size
    · have hl : p < s.data.toList.length := by rw [data_len]; exact h
      have had := ha _ (List.getElem_mem hl)
      obtain ⟨e1, -⟩ := decode_off s p h
      rw [decode_ascii s p h had] at e1
      unfold Lib.spansFromP
      rw [if_pos h, decode_ascii s p h had]
      simp only
      rw [show offB (s.data.toList[p]).toNat = offU s.data.toList[p] from e1, show Lx s p = s.data.toList[p] :: Lx s (p + 1) from List.drop_eq_getElem_cons hl]
      cases hc : offU s.data.toList[p] with
      | true =>
        rw [if_pos rfl]
        cases st with
        | none =>
          simp only
          rw [ih (p + 1) none acc (by omega) (by omega) (fun a h => by cases h)]
          simp only [wordsA, hc, if_true]
        | some a =>
          have hlt := h3 a rfl
          have hne : (Lx s a).take (p - a) ≠ [] := fun e => by
            have := congrArg List.length e
            rw [List.length_take, Lx_len, List.length_nil] at this; omega
          simp only
          rw [ih (p + 1) none _ (by omega) (by omega) (fun a h => by cases h)]
          simp only [wordsA, hc, if_true, if_neg hne, List.map_append, List.map_cons, List.map_nil, List.append_assoc, List.singleton_append]
          rw [ext_take]
      | false =>
        rw [if_neg (by decide)]
        cases st with
        | none =>
          simp only
          rw [ih (p + 1) (some p) acc (by omega) (by omega) (fun a h => by have := Option.some.inj h; omega)]
          simp only [wordsA, hc, Bool.false_eq_true, if_false]
          rw [take_succ_lx s p p (Nat.le_refl _) h, Nat.sub_self, List.take_zero]
        | some a =>
          have hlt := h3 a rfl
          simp only
          rw [ih (p + 1) (some a) acc (by omega) (by omega) (fun a' h' => by have := Option.some.inj h'; omega)]
          simp only [wordsA, hc, Bool.false_eq_true, if_false]
          rw [take_succ_lx s a p (by omega) h]
    · rw [Lib.spansFromP_end _ _ _ _ _ _ h]
      exact close p st acc (by omega) h3
theorem words_f (l : List UInt8) (hl : l.length ≤ 1000000000) : Gpaper_Words.f (toD l) = some (wD (wordsL l)) := by
  unfold Gpaper_Words.f Gstrings_FieldsFunc.f
  rw [latin_f l (by omega), Option.bind_some, toD_size, List.length_map, Nat.ble_eq_true_of_le (by omega), cond_true, Option.bind_some]
  congr 1
  unfold Lib.goFieldsP Lib.spansOfP
  rw [spans_words (toD (l.map latU)) (by rw [toD_data]; exact lat_ascii l) _ 0 none [] (by omega) (by omega) (fun a h => by cases h)]
  simp only [List.map_nil, List.nil_append, Lx, List.drop_zero, toD_data, words_lat, List.map_map]
  rfl
theorem rwords_l (l : List UInt8) (hl : l.length ≤ 1000000000) (κ : List D → Option (List D)) : ∀ (n i k a : Nat) (acc : List (List UInt8)), l.length + 1 - i ≤ n → n < k → i ≤ l.length + 1 → a ≤ i → acc.length ≤ i → (i = l.length + 1 → a = i) →
    Gr28_Words.l122 k (toD l) (wD acc) (a : Int) (i : Int) κ = κ (wD (acc ++ (if i = l.length + 1 then [] else wordsA ((l.drop a).take (i - a)) (l.drop i)))) := by
  intro n
  induction n with
  | zero =>
    intro i k a acc h1 h2 h3 h4 h5 h6
    obtain ⟨k, rfl⟩ : ∃ m, k = m + 1 := ⟨k - 1, by omega⟩
    rw [Gr28_Words.l122, toD_size, dle, decide_eq_false (by omega), cond_false, if_pos (by omega), List.append_nil]
  | succ n ih =>
    intro i k a acc h1 h2 h3 h4 h5 h6
    obtain ⟨k, rfl⟩ : ∃ m, k = m + 1 := ⟨k - 1, by omega⟩
    rw [Gr28_Words.l122, toD_size, dle, dlt]
    simp only [toNat_nat]
    by_cases h : i ≤ l.length
    · have next : ∀ (b : List (List UInt8)), b.length ≤ i + 1 → Gr28_Words.l122 k (toD l) (wD b) ((i + 1 : Nat) : Int) ((i + 1 : Nat) : Int) κ = κ (wD (b ++ (if i + 1 = l.length + 1 then [] else wordsA [] (l.drop (i + 1))))) := fun b hb => by
        have := ih (i + 1) k (i + 1) b (by omega) (by omega) (by omega) (by omega) hb (fun _ => rfl)
        rw [Nat.sub_self, List.take_zero] at this
        exact this
      have cut : Gr28_Words.l122 k (toD l) (wD acc) ((i + 1 : Nat) : Int) ((i + 1 : Nat) : Int) κ = κ (wD (acc ++ (if i + 1 = l.length + 1 then [] else wordsA [] (l.drop (i + 1))))) := next acc (by omega)
      -- a word ends here, or none does
      have ends : (bif decide (a < i) then gd (decide ((0 : Int) ≤ (a : Int)) && (decide ((a : Int) ≤ (i : Int)) && true)) (gd (Nat.ble ((wD acc).length + ([.s ((toD l).extract a i)] : List D).length) lim) (Gr28_Words.l122 k (toD l) ((wD acc) ++ ([.s ((toD l).extract a i)] : List D)) (IntKind.i64.wrap ((i : Int) + 1)) (IntKind.i64.wrap ((i : Int) + 1)) κ)) else Gr28_Words.l122 k (toD l) (wD acc) (IntKind.i64.wrap ((i : Int) + 1)) (IntKind.i64.wrap ((i : Int) + 1)) κ)
          = κ (wD (acc ++ ((if (l.drop a).take (i - a) = [] then [] else [(l.drop a).take (i - a)]) ++ (if i + 1 = l.length + 1 then [] else wordsA [] (l.drop (i + 1)))))) := by
        rw [w_succ _ (by omega)]
        by_cases ha : a < i
        · have hne : (l.drop a).take (i - a) ≠ [] := fun e => by
            have := congrArg List.length e
            rw [List.length_take, List.length_drop, List.length_nil] at this; omega
          have eg : (decide ((0 : Int) ≤ (a : Int)) && (decide ((a : Int) ≤ (i : Int)) && true)) = true := by
            rw [decide_eq_true (by omega), decide_eq_true (by omega)]; rfl
          have e1 : ([.s ((toD l).extract a i)] : List D) = wD [(l.drop a).take (i - a)] := by
            rw [ext_take]
            rfl
          have e2 : (wD [(l.drop a).take (i - a)]).length = 1 := rfl
          rw [decide_eq_true ha, cond_true, gd_pos eg, e1, wD_len, e2, gd_pos (lim_pos (by omega)), wD_app, if_neg hne, next _ (by rw [List.length_append, List.length_singleton]; omega), List.append_assoc]
        · obtain rfl : a = i := by omega
          rw [decide_eq_false ha, cond_false, cut, Nat.sub_self, List.take_zero, if_pos rfl, List.nil_append]
      rw [decide_eq_true h, cond_true, if_neg (show ¬ i = l.length + 1 by omega)]
      by_cases hi : i < l.length
      · rw [decide_eq_true hi, gd_pos (by rw [inB_pos (by omega)]; rfl), cond_true, bt_toD hi, word_f, Option.bind_some, Bool.true_and, List.drop_eq_getElem_cons hi, wordsA, dgt]
        cases hc : offU l[i] with
        | true =>
          rw [Bool.not_true, cond_false, ends, if_pos rfl, if_neg (show ¬ i + 1 = l.length + 1 by omega)]
          by_cases ha : (l.drop a).take (i - a) = []
          · rw [if_pos ha, if_pos ha, List.nil_append]
          · rw [if_neg ha, if_neg ha, List.singleton_append]
        | false =>
          have et : (l.drop a).take (i + 1 - a) = (l.drop a).take (i - a) ++ [l[i]] := by
            rw [show i + 1 - a = (i - a) + 1 by omega, List.take_add_one, List.getElem?_drop, show a + (i - a) = i by omega, List.getElem?_eq_getElem hi]; rfl
          rw [Bool.not_false, cond_true, w_succ _ (by omega), ih (i + 1) k a acc (by omega) (by omega) (by omega) (by omega) (by omega) (fun h => by omega), if_neg (show ¬ i + 1 = l.length + 1 by omega), et]
          rfl
      · have hil : i = l.length := by omega
        rw [decide_eq_false hi, gd_pos (show (!false || inB (i : Int) l.length) = true from rfl), cond_false, Option.bind_some, Bool.false_and, cond_false, dgt, ends, if_pos (show i + 1 = l.length + 1 by omega), List.append_nil, List.drop_eq_nil_of_le (show l.length ≤ i by omega), wordsA]
    · rw [decide_eq_false h, cond_false, if_pos (by omega), List.append_nil]
theorem rwords_f (l : List UInt8) (hl : l.length ≤ 1000000000) : Gr28_Words.f (toD l) = some (wD (wordsL l)) := by
  have hN := le_NN
  unfold Gr28_Words.f
  have := rwords_l l hl (fun y2 => some y2) (l.length + 1) 0 NN 0 [] (by omega) (by omega) (by omega) (by omega) (by simp) (fun h => by omega)
  rw [if_neg (by omega), Nat.sub_self, List.take_zero, List.drop_zero, List.nil_append] at this
  exact this
/-! ### The words of joined words -/
theorem words_run : ∀ (w cur r : List UInt8), w.any offU = false → wordsA cur (w ++ r) = wordsA (cur ++ w) r
  | [], cur, r, _ => by rw [List.nil_append, List.append_nil]
  | c :: w, cur, r, h => by
    rw [List.any_cons, Bool.or_eq_false_iff] at h
    rw [List.cons_append, wordsA, h.1]
    simp only [Bool.false_eq_true, if_false]
    rw [words_run w (cur ++ [c]) r h.2, List.append_assoc, List.singleton_append]
theorem words_blanks : ∀ (n : Nat) (r : List UInt8), wordsA [] (List.replicate n 32 ++ r) = wordsA [] r
  | 0, r => rfl
  | n + 1, r => by
    rw [List.replicate_succ, List.cons_append, wordsA, if_pos off32, if_pos rfl, words_blanks n r]
theorem bad_iff {w : List UInt8} : badW w = false ↔ w ≠ [] ∧ w.any offU = false := by
  unfold badW
  rw [Bool.or_eq_false_iff, List.isEmpty_eq_false_iff]
theorem words_gap {w : List UInt8} (h : badW w = false) (n : Nat) (r : List UInt8) : wordsA [] (w ++ (List.replicate (n + 1) 32 ++ r)) = w :: wordsA [] r := by
  obtain ⟨h1, h2⟩ := bad_iff.1 h
  rw [words_run w [] _ h2, List.nil_append, List.replicate_succ, List.cons_append, wordsA, if_pos off32, if_neg h1, words_blanks]
theorem words_one {w : List UInt8} (h : badW w = false) : wordsA [] w = [w] := by
  obtain ⟨h1, h2⟩ := bad_iff.1 h
  have := words_run w [] [] h2
  rw [List.append_nil, List.nil_append] at this
  rw [this, wordsA, if_neg h1]
theorem words_spT (g N : Nat) : ∀ (ws : List (List UInt8)) (i : Nat), (∀ w ∈ ws, badW w = false) → wordsL (spT g N i ws) = ws
  | [], _, _ => rfl
  | [w], _, h => words_one (h w (List.mem_cons_self ..))
  | w :: x :: r, i, h => by
    show wordsA [] _ = _
    rw [spT, show 1 + N / g + (if g - N % g ≤ i then 1 else 0) = (N / g + (if g - N % g ≤ i then 1 else 0)) + 1 by omega, words_gap (h w (List.mem_cons_self ..)), show wordsA [] (spT g N (i + 1) (x :: r)) = x :: r from words_spT g N (x :: r) (i + 1) fun y hy => h y (List.mem_cons_of_mem _ hy)]
theorem words_join (ws : List (List UInt8)) (h : ∀ w ∈ ws, badW w = false) : wordsL (joinL ws) = ws := by
  rw [← spT_zero (ws.length) ws 0 (by omega)]
  exact words_spT _ _ ws 0 h
theorem words_line (width : Nat) (wide : Bool) (ws : List (List UInt8)) (h : ∀ w ∈ ws, badW w = false) : wordsL (lineL width wide ws) = ws := by
  unfold lineL
  cases wide with
  | true => exact words_spT _ _ ws 0 h
  | false => exact words_join ws h
end Go.Pv

namespace Go.Pv
set_option maxRecDepth 20000
theorem gd_true {R : Type} (x : Option R) : gd true x = x := rfl
theorem drop_cons {α : Type} {l t : List α} {i : Nat} {x : α} (h : l.drop i = x :: t) : ∃ hi : i < l.length, l[i] = x ∧ l.drop (i + 1) = t := by
  have hi : i < l.length := by
    rcases Nat.lt_or_ge i l.length with h' | h'
    · exact h'
    · rw [List.drop_eq_nil_of_le h'] at h; cases h
  rw [List.drop_eq_getElem_cons hi] at h
  exact ⟨hi, (List.cons.inj h).1, (List.cons.inj h).2⟩
/-! ### Widths -/
theorem fit_ok (width : Nat) : ∀ (r cur : List (List UInt8)), cur ≠ [] → fitG width (joinL cur).length r = 0 ∨ (joinL (cur ++ r.take (fitG width (joinL cur).length r))).length ≤ width
  | [], cur, _ => .inl rfl
  | w :: r, cur, h => by
    rw [fitG]
    by_cases hc : (joinL cur).length + 1 + w.length ≤ width
    · have e : (joinL (cur ++ [w])).length = (joinL cur).length + 1 + w.length := by rw [joinL_snoc _ _ h, List.length_append, List.length_cons]; omega
      rw [if_pos hc, List.take_succ_cons, ← e]
      refine .inr ?_
      rcases fit_ok width r (cur ++ [w]) (by simp) with h' | h'
      · rw [h', List.take_zero, e]; exact hc
      · rw [List.append_assoc, List.singleton_append] at h'; exact h'
    · rw [if_neg hc]; exact .inl rfl
theorem fit_next (width : Nat) : ∀ (r cur : List (List UInt8)), cur ≠ [] → ∀ x t, r.drop (fitG width (joinL cur).length r) = x :: t → width < (joinL (cur ++ r.take (fitG width (joinL cur).length r))).length + 1 + x.length
  | [], cur, _, x, t, h => by rw [List.drop_nil] at h; cases h
  | w :: r, cur, h, x, t, hd => by
    rw [fitG] at hd ⊢
    by_cases hc : (joinL cur).length + 1 + w.length ≤ width
    · have e : (joinL (cur ++ [w])).length = (joinL cur).length + 1 + w.length := by rw [joinL_snoc _ _ h, List.length_append, List.length_cons]; omega
      rw [if_pos hc, List.drop_succ_cons, ← e] at hd
      rw [if_pos hc, List.take_succ_cons, ← e]
      have := fit_next width r (cur ++ [w]) (by simp) x t hd
      rw [List.append_assoc, List.singleton_append] at this; exact this
    · rw [if_neg hc, List.drop_zero] at hd
      rw [if_neg hc, List.take_zero, List.append_nil]
      obtain ⟨rfl, -⟩ := List.cons.inj hd
      omega
theorem spT_len (g N : Nat) (hg : 1 ≤ g) : ∀ (ws : List (List UInt8)) (i : Nat), ws ≠ [] → i + ws.length = g + 1 → (spT g N i ws).length = sumL ws + (ws.length - 1) * (1 + N / g) + (g - max i (g - N % g))
  | [], _, h, _ => absurd rfl h
  | [w], i, _, h => by
    simp only [List.length_cons, List.length_nil] at h
    rw [spT, sumL_cons, sumL_nil]
    simp only [List.length_cons, List.length_nil]
    have : max i (g - N % g) = g := by rw [Nat.max_def]; split <;> omega
    omega
  | w :: x :: r, i, _, h => by
    simp only [List.length_cons] at h
    have ih := spT_len g N hg (x :: r) (i + 1) (by simp) (by simp only [List.length_cons]; omega)
    simp only [List.length_cons, Nat.add_sub_cancel] at ih
    have hm : N % g < g := Nat.mod_lt _ (by omega)
    rw [spT, List.length_append, List.length_append, List.length_replicate, ih, sumL_cons w (x :: r)]
    simp only [List.length_cons, Nat.add_sub_cancel]
    rw [Nat.succ_mul]
    generalize r.length * (1 + N / g) = q at *
    generalize N / g = d at *
    generalize N % g = m at *
    rw [Nat.max_def, Nat.max_def]
    split <;> split <;> split <;> omega
theorem spread_len (ws : List (List UInt8)) (width : Nat) (h2 : 2 ≤ ws.length) (hj : (joinL ws).length ≤ width) : (spreadL ws width).length = width := by
  unfold spreadL
  rw [spT_len (ws.length - 1) _ (by omega) ws 0 (by intro e; rw [e] at h2; simp at h2) (by omega), joinL_len] at *
  have hg : 0 < ws.length - 1 := by omega
  have hdm := Nat.div_add_mod (width - (sumL ws + (ws.length - 1))) (ws.length - 1)
  have hm := Nat.mod_lt (width - (sumL ws + (ws.length - 1))) hg
  rw [Nat.mul_add, Nat.mul_one]
  rw [Nat.max_eq_right (Nat.zero_le _)]
  omega
/-- What is known of the first line. -/
structure Ln (width : Nat) (wide : Bool) (w : List UInt8) (r : List (List UInt8)) (line : List UInt8) : Prop where
  words : wordsL line = w :: r.take (fitG width w.length r)
  size : line.length ≤ 100000
  narrow : 2 ≤ (w :: r.take (fitG width w.length r)).length → line.length ≤ width
  full : wide = true → r.drop (fitG width w.length r) ≠ [] → 2 ≤ (w :: r.take (fitG width w.length r)).length → line.length = width
  next : wide = false → ∀ x t, r.drop (fitG width w.length r) = x :: t → width < line.length + 1 + x.length
theorem first_line (width : Nat) (hw : width ≤ 200) (wide : Bool) (w : List UInt8) (r : List (List UInt8)) (hb : ∀ x ∈ w :: r, badW x = false) (hs : sumL (w :: r) ≤ 5000) (hn : (w :: r).length ≤ 500) :
    ∃ line, linesL width wide (grpL width (w :: r)) = line :: linesL width wide (grpL width (r.drop (fitG width w.length r))) ∧ Ln width wide w r line := by
  have hb' : ∀ x ∈ w :: r.take (fitG width w.length r), badW x = false := fun x hx => by
    rcases List.mem_cons.1 hx with rfl | hx
    · exact hb _ (List.mem_cons_self ..)
    · exact hb x (List.mem_cons_of_mem _ (List.mem_of_mem_take hx))
  have hs' : sumL (w :: r.take (fitG width w.length r)) ≤ 5000 := by
    have := sumL_take r (fitG width w.length r)
    rw [sumL_cons] at hs ⊢; omega
  have hn' : (w :: r.take (fitG width w.length r)).length ≤ 500 := by
    simp only [List.length_cons, List.length_take] at hn ⊢; omega
  have hok := fit_ok width r [w] (by simp)
  have hnx := fit_next width r [w] (by simp)
  rw [joinL_one, List.singleton_append] at hok
  simp only [joinL_one, List.singleton_append] at hnx
  have hjn : 2 ≤ (w :: r.take (fitG width w.length r)).length → (joinL (w :: r.take (fitG width w.length r))).length ≤ width := fun h => by
    rcases hok with h' | h'
    · rw [h', List.take_zero] at h; simp at h
    · exact h'
  have hjl := joinL_len (w :: r.take (fitG width w.length r))
  rw [grpL_cons]
  cases hd : r.drop (fitG width w.length r) with
  | nil =>
    refine ⟨joinL (w :: r.take (fitG width w.length r)), rfl, ⟨words_join _ hb', by omega, hjn, fun _ h => absurd hd h, fun _ x t h => ?_⟩⟩
    rw [hd] at h; cases h
  | cons x t =>
    obtain ⟨g, q, hq⟩ : ∃ g q, grpL width (x :: t) = g :: q := ⟨_, _, grpL_cons ..⟩
    rw [hq]
    refine ⟨lineL width wide (w :: r.take (fitG width w.length r)), rfl, ?_⟩
    have hlen : wide = true → 2 ≤ (w :: r.take (fitG width w.length r)).length → (lineL width wide (w :: r.take (fitG width w.length r))).length = width := fun h1 h2 => by
      rw [h1]; exact spread_len _ _ h2 (hjn h2)
    have hone : ¬ 2 ≤ (w :: r.take (fitG width w.length r)).length → lineL width wide (w :: r.take (fitG width w.length r)) = joinL (w :: r.take (fitG width w.length r)) := fun h2 => by
      cases wide with
      | true => exact spread_join (.inr (by omega))
      | false => rfl
    refine ⟨words_line _ _ _ hb', ?_, fun h2 => ?_, fun h1 _ h2 => hlen h1 h2, fun h1 x' t' h => ?_⟩
    · by_cases h2 : 2 ≤ (w :: r.take (fitG width w.length r)).length
      · cases wide with
        | true => rw [hlen rfl h2]; omega
        | false => show (joinL _).length ≤ _; omega
      · rw [hone h2]; omega
    · cases wide with
      | true => rw [hlen rfl h2]; exact Nat.le_refl _
      | false => exact hjn h2
    · subst h1
      exact hnx x' t' h
/-! ### The laws -/
theorem wide_i (ws G lines : List (List UInt8)) (width : Int) (wide : Bool) (n i : Nat) (hn : ws.length ≤ 500) (hG : (ws.drop n).take G.length = G) (hl : n + G.length ≤ ws.length) (κ : (List D × Int × Bool × List D × Int × Int) → Option Bool) : ∀ (f j k : Nat), G.length - j ≤ f → f < k → j ≤ G.length →
    Gw28_PaperWide.l259226 k (wD ws) width wide (wD lines) ((n + j : Nat) : Int) (i : Int) (wD G) (j : Int) κ = κ (wD ws, width, wide, wD lines, ((n + G.length : Nat) : Int), (i : Int)) := by
  intro f
  induction f with
  | zero =>
    intro j k h1 h2 h3
    obtain ⟨k, rfl⟩ : ∃ m, k = m + 1 := ⟨k - 1, by omega⟩
    rw [Gw28_PaperWide.l259226, wD_len, dlt, decide_eq_false (by omega), cond_false, show n + j = n + G.length by omega]
  | succ f ih =>
    intro j k h1 h2 h3
    obtain ⟨k, rfl⟩ : ∃ m, k = m + 1 := ⟨k - 1, by omega⟩
    rw [Gw28_PaperWide.l259226]
    simp only [wD_len, toNat_nat]
    rw [dlt]
    by_cases h : j < G.length
    · have hj : n + j < ws.length := by omega
      have e : ws[n + j] = G[j] := by
        have e1 : ((ws.drop n).take G.length)[j]? = G[j]? := by rw [hG]
        rw [List.getElem?_take_of_lt h, List.getElem?_drop, List.getElem?_eq_getElem hj, List.getElem?_eq_getElem h] at e1
        exact Option.some.inj e1
      have hin1 : inB ((n + j : Nat) : Int) ws.length = true := inB_pos (by omega)
      have hin2 : inB (j : Int) G.length = true := inB_pos (by omega)
      have hge : decide (((n + j : Nat) : Int) ≥ (ws.length : Int)) = false := decide_eq_false (by omega)
      rw [decide_eq_true h, cond_true, hin1, hin2, blt_pos h, rd_wD hj, rd_wD h, toD_beq, hge, e, decide_eq_true rfl]
      simp only [Bool.or_true, gd_true, Bool.not_true, Bool.or_false, cond_false]
      rw [w_succ _ (by omega), w_succ _ (by omega)]
      exact ih (j + 1) k (by omega) (by omega) (by omega)
    · rw [decide_eq_false h, cond_false, show n + j = n + G.length by omega]
theorem wide_l (ws lines : List (List UInt8)) (width : Nat) (hw : width ≤ 200) (wide : Bool) (hn : ws.length ≤ 500) (hs : sumL ws ≤ 5000) (hb : ∀ x ∈ ws, badW x = false) (hln : lines.length ≤ 500) (κ : (List D × Int) → Option Bool) : ∀ (f : Nat) (rest : List (List UInt8)) (i n k : Nat), rest.length ≤ f → f < k → ws.drop n = rest → n ≤ ws.length → lines.drop i = linesL width wide (grpL width rest) → i ≤ lines.length →
    Gw28_PaperWide.l506 k (wD ws) (width : Int) wide (wD lines) (n : Int) (i : Int) κ = κ (wD ws, (ws.length : Int)) := by
  have hN := le_NN
  have fin : ∀ (i n k : Nat), ws.drop n = [] → n ≤ ws.length → lines.drop i = linesL width wide (grpL width []) → i ≤ lines.length → Gw28_PaperWide.l506 (k + 1) (wD ws) (width : Int) wide (wD lines) (n : Int) (i : Int) κ = κ (wD ws, (ws.length : Int)) := fun i n k h1 h2 h3 h4 => by
    rw [grpL_nil, linesL] at h3
    have h1 := List.drop_eq_nil_iff.1 h1
    have h3 := List.drop_eq_nil_iff.1 h3
    rw [Gw28_PaperWide.l506, wD_len, dlt, decide_eq_false (by omega), cond_false, show n = ws.length by omega]
  intro f
  induction f with
  | zero =>
    intro rest i n k h1 h2 h3 h4 h5 h6
    obtain ⟨k, rfl⟩ : ∃ m, k = m + 1 := ⟨k - 1, by omega⟩
    obtain rfl : rest = [] := List.eq_nil_of_length_eq_zero (by omega)
    exact fin i n k h3 h4 h5 h6
  | succ f ih =>
    intro rest i n k h1 h2 h3 h4 h5 h6
    obtain ⟨k, rfl⟩ : ∃ m, k = m + 1 := ⟨k - 1, by omega⟩
    match rest with
    | [] => exact fin i n k h3 h4 h5 h6
    | w :: r =>
      have hm : ∀ x ∈ w :: r, x ∈ ws := fun x hx => List.mem_of_mem_drop (h3 ▸ hx)
      have hsr : sumL (w :: r) ≤ 5000 := by rw [← h3]; exact Nat.le_trans (sumL_drop ws n) hs
      have hlr : (w :: r).length = ws.length - n := by rw [← h3, List.length_drop]
      obtain ⟨line, e1, L⟩ := first_line width hw wide w r (fun x hx => hb x (hm x hx)) hsr (by omega)
      rw [e1] at h5
      obtain ⟨hi, hli, h5'⟩ := drop_cons h5
      have hfl := fitG_le width r w.length
      obtain ⟨G, hG⟩ : ∃ G, G = w :: r.take (fitG width w.length r) := ⟨_, rfl⟩
      have hGl : G.length = 1 + fitG width w.length r := by rw [hG, List.length_cons, List.length_take]; omega
      simp only [List.length_cons] at hlr
      have hin : inB (i : Int) lines.length = true := inB_pos (by omega)
      have hdr : ws.drop (n + G.length) = r.drop (fitG width w.length r) := by
        rw [← List.drop_drop, h3, hGl, Nat.add_comm]; rfl
      have hta : (ws.drop n).take G.length = G := by
        rw [h3, hGl, Nat.add_comm]; exact hG.symm
      have hwl := words_f line (by have := L.size; omega)
      rw [L.words, ← hG] at hwl
      have hrd : (rd (wD lines) i).str = toD line := by rw [rd_wD hi, hli]
      have hlast : decide ((i : Int) < IntKind.i64.wrap ((lines.length : Int) - 1)) = true → r.drop (fitG width w.length r) ≠ [] := fun hlt e => by
        rw [w64 _ (by omega), decide_eq_true_eq] at hlt
        rw [e, grpL_nil, linesL] at h5'
        have := List.drop_eq_nil_iff.1 h5'
        omega
      have ha : ((G.length : Int) == 0) = false := by rw [beq_eq_false_iff_ne]; omega
      have hbn : (decide ((line.length : Int) > (width : Int)) && decide ((G.length : Int) > 1)) = false := by
        rw [Bool.and_eq_false_iff, decide_eq_false_iff_not, decide_eq_false_iff_not]
        by_cases h2 : 2 ≤ G.length
        · have := L.narrow (by rw [← hG]; exact h2); exact .inl (by omega)
        · exact .inr (by omega)
      have hcn : (((wide && decide ((i : Int) < IntKind.i64.wrap ((lines.length : Int) - 1))) && decide ((G.length : Int) > 1)) && ((line.length : Int) != (width : Int))) = false := by
        cases hx : ((wide && decide ((i : Int) < IntKind.i64.wrap ((lines.length : Int) - 1))) && decide ((G.length : Int) > 1)) with
        | false => rfl
        | true =>
          simp only [Bool.and_eq_true] at hx
          have h2 : 2 ≤ G.length := by have := of_decide_eq_true hx.2; omega
          have := L.full hx.1.1 (hlast hx.1.2) (by rw [← hG]; exact h2)
          rw [this]; simp
      rw [Gw28_PaperWide.l506, wD_len lines, toNat_nat i, dlt, decide_eq_true hi, cond_true, hin, blt_pos hi, hrd, hwl]
      simp only [gd_true, Option.bind_some, wD_len, Bool.or_true, toD_size]
      rw [ha, hbn]
      simp only [Bool.false_or]
      rw [hcn, cond_false]
      have inner := wide_i ws G lines (width : Int) wide n i hn hta (by omega)
      rw [show (n : Int) = ((n + 0 : Nat) : Int) from rfl, show (0 : Int) = ((0 : Nat) : Int) from rfl, inner _ G.length 0 NN (by omega) (by omega) (by omega)]
      dsimp only
      rw [wD_len lines, wD_len ws, toNat_nat i, toNat_nat (n + G.length), hin, blt_pos hi, hrd]
      simp only [Bool.or_true, gd_true]
      rw [toD_size line]
      have nx : Gw28_PaperWide.l506 k (wD ws) (width : Int) wide (wD lines) ((n + G.length : Nat) : Int) (IntKind.i64.wrap ((i : Int) + 1)) κ = κ (wD ws, (ws.length : Int)) := by
        rw [w_succ _ (by omega)]
        exact ih (r.drop (fitG width w.length r)) (i + 1) (n + G.length) k (by rw [List.length_drop]; simp only [List.length_cons] at h1; omega) (by omega) hdr (by omega) h5' (by omega)
      rw [nx, dlt]
      by_cases hc : n + G.length < ws.length
      · rw [List.drop_eq_getElem_cons hc] at hdr
        rw [decide_eq_true hc, inB_pos (show 0 ≤ ((n + G.length : Nat) : Int) ∧ ((n + G.length : Nat) : Int) < (ws.length : Nat) by omega), rd_wD hc, toD_size]
        simp only [Bool.or_true, gd_true, Bool.true_and]
        cases hwd : wide with
        | true => rfl
        | false =>
          have hnx := L.next hwd _ _ hdr.symm
          have hsz := L.size
          have hmx := sumL_mem (List.getElem_mem hc)
          rw [w64 ((line.length : Int) + 1) (by omega), w64 ((line.length : Int) + 1 + _) (by omega), decide_eq_false (show ¬ ((line.length : Int) + 1 + (ws[n + G.length].length : Int) ≤ (width : Int)) by omega)]
          rfl
      · rw [decide_eq_false hc]; rfl
theorem law_wide (ws : List (List UInt8)) (width : Int) (wide : Bool) (hn : ws.length ≤ 140737488355328) (hw : ∀ w ∈ ws, w.length ≤ 140737488355328) : Gw28_PaperWide.f (wD ws) width wide = some true := by
  have hN := le_NN
  obtain ⟨b, hb, hl⟩ := many_f ws hn hw
  unfold Gw28_PaperWide.f
  rw [hb, Option.bind_some]
  cases b with
  | true => rw [cond_true, awake_f]; rfl
  | false =>
    obtain ⟨h1, h2⟩ := hl rfl
    have h3 := fillR_len ws width wide
    rw [cond_false, fill_f ws width wide h1 h2, Option.bind_some]
    simp only
    by_cases he : errOf ws width = 0
    · obtain ⟨w1, w2, hbad⟩ := err_width he
      have e : fillR ws width wide = (linesL width.toNat wide (grpL width.toNat ws), 0) := by unfold fillR; rw [if_neg (by simpa using he)]
      rw [e] at h3 ⊢
      replace h3 : (linesL width.toNat wide (grpL width.toNat ws)).length ≤ ws.length := h3
      simp only
      rw [show ((0 : Int) != 0) = false from rfl, cond_false, show width = ((width.toNat : Nat) : Int) by omega, toNat_nat, show (0 : Int) = ((0 : Nat) : Int) from rfl]
      rw [wide_l ws (linesL width.toNat wide (grpL width.toNat ws)) width.toNat (by omega) wide h1 h2 hbad (by omega) _ ws.length ws 0 0 NN (Nat.le_refl _) (by omega) (List.drop_zero ..) (by omega) (List.drop_zero ..) (by omega)]
      simp only [wD_len, beq_self_eq_true, cond_true, awake_f, Option.bind_some, Bool.and_self]
    · have e : fillR ws width wide = ([], errOf ws width) := by unfold fillR; rw [if_pos he]
      rw [e]
      simp only
      rw [show (errOf ws width != 0) = true by rw [bne_iff_ne]; exact he, cond_true]
      simp only [List.map_nil, List.length_nil]
      rw [show (((0 : Nat) : Int) == 0) = true from rfl, cond_true, awake_f]; rfl
theorem again_l (ws lines : List (List UInt8)) (width : Nat) (hw : width ≤ 200) (hn : ws.length ≤ 500) (hs : sumL ws ≤ 5000) (hb : ∀ x ∈ ws, badW x = false) (hln : lines.length ≤ 500) (κ : (List D × Int × List D × List D) → Option Bool) : ∀ (f : Nat) (rest : List (List UInt8)) (i n k : Nat), rest.length ≤ f → f < k → ws.drop n = rest → n ≤ ws.length → lines.drop i = linesL width false (grpL width rest) → i ≤ lines.length →
    Gw28_PaperAgain.l506 k (wD ws) (width : Int) (wD lines) (wD (ws.take n)) (i : Int) κ = κ (wD ws, (width : Int), wD lines, wD ws) := by
  have fin : ∀ (i n k : Nat), ws.drop n = [] → n ≤ ws.length → lines.drop i = linesL width false (grpL width []) → i ≤ lines.length → Gw28_PaperAgain.l506 (k + 1) (wD ws) (width : Int) (wD lines) (wD (ws.take n)) (i : Int) κ = κ (wD ws, (width : Int), wD lines, wD ws) := fun i n k h1 h2 h3 h4 => by
    rw [grpL_nil, linesL] at h3
    have h1 := List.drop_eq_nil_iff.1 h1
    have h3 := List.drop_eq_nil_iff.1 h3
    rw [Gw28_PaperAgain.l506, wD_len, dlt, decide_eq_false (by omega), cond_false, List.take_of_length_le h1]
  intro f
  induction f with
  | zero =>
    intro rest i n k h1 h2 h3 h4 h5 h6
    obtain ⟨k, rfl⟩ : ∃ m, k = m + 1 := ⟨k - 1, by omega⟩
    obtain rfl : rest = [] := List.eq_nil_of_length_eq_zero (by omega)
    exact fin i n k h3 h4 h5 h6
  | succ f ih =>
    intro rest i n k h1 h2 h3 h4 h5 h6
    obtain ⟨k, rfl⟩ : ∃ m, k = m + 1 := ⟨k - 1, by omega⟩
    match rest with
    | [] => exact fin i n k h3 h4 h5 h6
    | w :: r =>
      have hm : ∀ x ∈ w :: r, x ∈ ws := fun x hx => List.mem_of_mem_drop (h3 ▸ hx)
      have hsr : sumL (w :: r) ≤ 5000 := by rw [← h3]; exact Nat.le_trans (sumL_drop ws n) hs
      have hlr : (w :: r).length = ws.length - n := by rw [← h3, List.length_drop]
      obtain ⟨line, e1, L⟩ := first_line width hw false w r (fun x hx => hb x (hm x hx)) hsr (by omega)
      rw [e1] at h5
      obtain ⟨hi, hli, h5'⟩ := drop_cons h5
      have hfl := fitG_le width r w.length
      obtain ⟨G, hG⟩ : ∃ G, G = w :: r.take (fitG width w.length r) := ⟨_, rfl⟩
      have hGl : G.length = 1 + fitG width w.length r := by rw [hG, List.length_cons, List.length_take]; omega
      simp only [List.length_cons] at hlr
      have hdr : ws.drop (n + G.length) = r.drop (fitG width w.length r) := by
        rw [← List.drop_drop, h3, hGl, Nat.add_comm]; rfl
      have hta : (ws.drop n).take G.length = G := by
        rw [h3, hGl, Nat.add_comm]; exact hG.symm
      have hwl := words_f line (by have := L.size; omega)
      rw [L.words, ← hG] at hwl
      have hrd : (rd (wD lines) i).str = toD line := by rw [rd_wD hi, hli]
      have hap : ws.take n ++ G = ws.take (n + G.length) := by rw [List.take_add, hta]
      rw [Gw28_PaperAgain.l506]
      simp only [wD_len, toNat_nat]
      rw [dlt, decide_eq_true hi, cond_true, inB_pos (show 0 ≤ (i : Int) ∧ (i : Int) < (lines.length : Nat) by omega), blt_pos hi, hrd, hwl]
      simp only [gd_true, Option.bind_some, wD_len]
      rw [gd_pos (lim_pos (by rw [List.length_take]; omega)), wD_app, hap, w_succ _ (by omega)]
      exact ih (r.drop (fitG width w.length r)) (i + 1) (n + G.length) k (by rw [List.length_drop]; simp only [List.length_cons] at h1; omega) (by omega) hdr (by omega) h5' (by omega)
theorem law_again (ws : List (List UInt8)) (width : Int) (hn : ws.length ≤ 140737488355328) (hw : ∀ w ∈ ws, w.length ≤ 140737488355328) : Gw28_PaperAgain.f (wD ws) width = some true := by
  have hN := le_NN
  obtain ⟨b, hb, hl⟩ := many_f ws hn hw
  unfold Gw28_PaperAgain.f
  rw [hb, Option.bind_some]
  cases b with
  | true => rw [cond_true, awake_f]; rfl
  | false =>
    obtain ⟨h1, h2⟩ := hl rfl
    have h3 := fillR_len ws width false
    rw [cond_false, fill_f ws width false h1 h2, Option.bind_some]
    simp only
    by_cases he : errOf ws width = 0
    · obtain ⟨w1, w2, hbad⟩ := err_width he
      have e : ∀ wide, fillR ws width wide = (linesL width.toNat wide (grpL width.toNat ws), 0) := fun wide => by unfold fillR; rw [if_neg (by simpa using he)]
      rw [e] at h3 ⊢
      replace h3 : (linesL width.toNat false (grpL width.toNat ws)).length ≤ ws.length := h3
      simp only
      obtain ⟨W, hW⟩ : ∃ W : Nat, width = (W : Int) := ⟨width.toNat, by omega⟩
      have hW' : width.toNat = W := by rw [hW]; rfl
      rw [hW'] at h3 ⊢
      rw [show ((0 : Int) != 0) = false from rfl, cond_false, hW, show (0 : Int) = ((0 : Nat) : Int) from rfl, show ([] : List D) = wD (ws.take 0) from rfl]
      rw [again_l ws (linesL W false (grpL W ws)) W (by omega) h1 h2 hbad (by omega) _ ws.length ws 0 0 NN (Nat.le_refl _) (by omega) (List.drop_zero ..) (by omega) (List.drop_zero ..) (by omega)]
      simp only
      rw [← hW, fill_f ws width false h1 h2, Option.bind_some, fill_f ws width true h1 h2, Option.bind_some, e, e, hW']
      simp only
      rw [eqs_f _ _ (by omega)]
      simp only [wD_len, linesL_len, show ((0 : Int) == ((0 : Nat) : Int)) = true from rfl, beq_self_eq_true, Bool.and_self, cond_true, decide_true, Option.bind_some, awake_f]
    · have e : fillR ws width false = ([], errOf ws width) := by unfold fillR; rw [if_pos he]
      rw [e]
      simp only
      rw [show (errOf ws width != 0) = true by rw [bne_iff_ne]; exact he, cond_true, awake_f]; rfl
end Go.Pv

namespace Go.Pv
set_option maxRecDepth 20000
/-! ### In the middle -/
def centreL (l : List UInt8) (width : Int) : List UInt8 := if width ≤ l.length then l else List.replicate ((width - (l.length : Int)).toNat / 2) 32 ++ l
theorem centre_f (l : List UInt8) (width : Int) (hl : l.length ≤ 50000) (hw : width ≤ 5000) : Gpaper_Centre.f (toD l) width = some (toD (centreL l width)) := by
  unfold Gpaper_Centre.f centreL
  rw [toD_size]
  by_cases h : width ≤ l.length
  · rw [decide_eq_true h, cond_true, if_pos h]
  · obtain ⟨n, hn⟩ : ∃ n : Nat, width - (l.length : Int) = n := ⟨(width - (l.length : Int)).toNat, by omega⟩
    have ed : (n : Int).tdiv 2 = ((n / 2 : Nat) : Int) := rfl
    rw [decide_eq_false h, cond_false, if_neg h, gd_pos (show (!((2 : Nat) == 0)) = true from rfl), hn, w64 (n : Int) (by omega), ed, w64 ((n / 2 : Nat) : Int) (by omega), if_neg (by omega), repeat_f _ (by omega), Option.bind_some, gd_pos (decide_eq_true (by rw [toD_size, List.length_replicate]; unfold maxS; omega)), toD_app, toNat_nat]
theorem rcentre_f (l : List UInt8) (width : Int) (hl : l.length ≤ 50000) (hw : width ≤ 5000) : Gr28_Centre.f (toD l) width = some (toD (centreL l width)) := by
  unfold Gr28_Centre.f centreL
  rw [toD_size]
  by_cases h : width ≤ l.length
  · rw [decide_eq_true h, cond_true, if_pos h]
  · obtain ⟨n, hn⟩ : ∃ n : Nat, width - (l.length : Int) = n := ⟨(width - (l.length : Int)).toNat, by omega⟩
    have ed : (n : Int).tdiv 2 = ((n / 2 : Nat) : Int) := rfl
    rw [decide_eq_false h, cond_false, if_neg h, gd_pos (show (!((2 : Nat) == 0)) = true from rfl), hn, w64 (n : Int) (by omega), ed, w64 ((n / 2 : Nat) : Int) (by omega), blanks_f _ (by omega), Option.bind_some, gd_pos (decide_eq_true (by rw [toD_size, List.length_replicate]; unfold maxS; omega)), toD_app, toNat_nat]
/-! ### Pieces -/
/-- A text in pieces, each of which ends behind a line feed. -/
def saA : List UInt8 → List UInt8 → List (List UInt8)
  | cur, [] => [cur]
  | cur, c :: r => if c = 10 then (cur ++ [10]) :: saA [] r else saA (cur ++ [c]) r
theorem sa_run : ∀ (a cur r : List UInt8), 10 ∉ a → saA cur (a ++ r) = saA (cur ++ a) r
  | [], cur, r, _ => by rw [List.nil_append, List.append_nil]
  | c :: a, cur, r, h => by
    rw [List.mem_cons, not_or] at h
    rw [List.cons_append, saA, if_neg (Ne.symm h.1), sa_run a (cur ++ [c]) r h.2, List.append_assoc, List.singleton_append]
theorem sa_none {a : List UInt8} (h : 10 ∉ a) : saA [] a = [a] := by
  have := sa_run a [] [] h
  rw [List.append_nil, List.nil_append] at this
  rw [this, saA]
theorem sa_some {a : List UInt8} (h : 10 ∉ a) (b : List UInt8) : saA [] (a ++ 10 :: b) = (a ++ [10]) :: saA [] b := by
  rw [sa_run a [] _ h, List.nil_append, saA, if_pos rfl]
theorem lf_split (l : List UInt8) : 10 ∉ l ∨ ∃ a b, l = a ++ 10 :: b ∧ 10 ∉ a := by
  by_cases h : 10 ∈ l
  · right
    induction l with
    | nil => cases h
    | cons c r ih =>
      by_cases hc : c = 10
      · exact ⟨[], r, by rw [hc]; rfl, by simp⟩
      · have hr : 10 ∈ r := by
          rcases List.mem_cons.1 h with h | h
          · exact absurd h.symm hc
          · exact h
        obtain ⟨a, b, e, ha⟩ := ih hr
        exact ⟨c :: a, b, by rw [e]; rfl, by rw [List.mem_cons, not_or]; exact ⟨Ne.symm hc, ha⟩⟩
  · exact .inl h
theorem index_no {l : List UInt8} (h : 10 ∉ l) : Lib.index l [10] = -1 := by
  induction l with
  | nil => rfl
  | cons c r ih =>
    rw [List.mem_cons, not_or] at h
    have e : ([10] : List UInt8).isPrefixOf (c :: r) = false := by
      rw [Bool.eq_false_iff]
      intro e
      have := List.isPrefixOf_iff_prefix.1 e
      obtain ⟨t, ht⟩ := this
      exact h.1 (List.cons.inj ht).1
    rw [Lib.index, e, ih h.2]; rfl
theorem index_yes {a : List UInt8} (h : 10 ∉ a) (b : List UInt8) : Lib.index (a ++ 10 :: b) [10] = a.length := by
  induction a with
  | nil => rw [List.nil_append, Lib.index]; rfl
  | cons c r ih =>
    rw [List.mem_cons, not_or] at h
    have e : ([10] : List UInt8).isPrefixOf (c :: (r ++ 10 :: b)) = false := by
      rw [Bool.eq_false_iff]
      intro e
      obtain ⟨t, ht⟩ := List.isPrefixOf_iff_prefix.1 e
      exact h.1 (List.cons.inj ht).1
    rw [List.cons_append, Lib.index, e, ih h.2]
    rw [if_neg (by decide), show ((r.length : Int) == -1) = false by rw [beq_eq_false_iff_ne]; omega]
    simp
theorem split_sa : ∀ (n : Nat) (l : List UInt8), l.length ≤ n → Lib.splitB (toD [10]) 1 (l.count 10) (toD l) = (saA [] l).map toD := by
  intro n
  induction n with
  | zero =>
    intro l h
    obtain rfl : l = [] := List.eq_nil_of_length_eq_zero (by omega)
    rfl
  | succ n ih =>
    intro l h
    rcases lf_split l with hn | ⟨a, b, rfl, ha⟩
    · rw [sa_none hn, Lib.splitB_miss]
      · rfl
      · show Lib.index (toD l).data.toList (toD [10]).data.toList = -1
        rw [toD_data, toD_data]; exact index_no hn
    · have hc : (a ++ 10 :: b).count 10 = b.count 10 + 1 := by
        rw [List.count_append, List.count_cons_self, List.count_eq_zero.2 ha]; omega
      have hi : Lib.indexB (toD (a ++ 10 :: b)) (toD [10]) = a.length := by
        show Lib.index (toD (a ++ 10 :: b)).data.toList (toD [10]).data.toList = _
        rw [toD_data, toD_data]; exact index_yes ha b
      rw [hc, Lib.splitB_hit _ _ _ _ _ hi, sa_some ha, List.map_cons]
      have e1 : (toD (a ++ 10 :: b)).extract 0 (a.length + 1) = toD (a ++ [10]) := by
        rw [ext_take]
        show toD (((toD (a ++ 10 :: b)).data.toList.drop 0).take (a.length + 1 - 0)) = _
        rw [toD_data, List.drop_zero, Nat.sub_zero, List.take_append, List.take_of_length_le (by omega), Nat.add_sub_cancel_left]; rfl
      have e2 : (toD (a ++ 10 :: b)).extract (a.length + (toD [10]).size) (toD (a ++ 10 :: b)).size = toD b := by
        rw [ext_take, toD_size, toD_size]
        show toD (((toD (a ++ 10 :: b)).data.toList.drop (a.length + 1)).take _) = _
        rw [toD_data, List.drop_append, List.drop_eq_nil_of_le (by omega), Nat.add_sub_cancel_left, List.nil_append, List.drop_succ_cons, List.drop_zero, List.take_of_length_le]
        simp; omega
      rw [e1, e2, ih b (by simp at h; omega)]
theorem after_f (l : List UInt8) (hl : l.length ≤ 1000000000) : Gstrings_SplitAfter.f (toD l) str0a = some (wD (saA [] l)) := by
  have hcb : Lib.countB (toD l) (toD [10]) = l.count 10 := by
    show Lib.count (toD l).data.toList (toD [10]).data.toList = _
    rw [toD_data, toD_data]; exact Lib.count_one 10 l
  unfold Gstrings_SplitAfter.f Gstrings_genSplit.f
  rw [str_nl, toD_data, toD_size, toD_size, blt_pos (by omega)]
  show (some ((Lib.splitB (toD [10]) 1 (Lib.countB (toD l) (toD [10])) (toD l)).map D.s)).bind _ = _
  rw [hcb, split_sa l.length l (Nat.le_refl _), Option.bind_some, List.map_map]; rfl
/-! ### Pages -/
def trimL (p : List UInt8) : List UInt8 := if p.getLast? = some 10 then p.dropLast else p
theorem trim_none {a : List UInt8} (h : 10 ∉ a) : trimL a = a := by
  unfold trimL
  rw [if_neg]
  intro e
  exact h (List.mem_of_getLast? e)
theorem trim_some (a : List UInt8) : trimL (a ++ [10]) = a := by
  unfold trimL
  rw [if_pos (by simp), List.dropLast_concat]
theorem trim_f (p : List UInt8) (hp : p.length ≤ 1000000000) : Gstrings_TrimSuffix.f (toD p) str0a = some (toD (trimL p)) := by
  unfold Gstrings_TrimSuffix.f Ginternal_stringslite_TrimSuffix.f Ginternal_stringslite_HasSuffix.f
  rw [str_nl, toD_size, toD_size, List.length_singleton, dge, w64 ((p.length : Int) - ((1 : Nat) : Int)) (by omega)]
  by_cases h : 1 ≤ p.length
  · have e : ((p.length : Int) - ((1 : Nat) : Int)) = ((p.length - 1 : Nat) : Int) := by omega
    have hne : p ≠ [] := fun e => by rw [e] at h; simp at h
    have e1 : (toD p).extract (p.length - 1) p.length = toD [p.getLast hne] := by
      rw [ext_take]
      show toD (((toD p).data.toList.drop (p.length - 1)).take _) = _
      rw [toD_data, List.drop_eq_getElem_cons (show p.length - 1 < p.length by omega), List.drop_eq_nil_of_le (by omega), ← List.getLast_eq_getElem hne, show p.length - (p.length - 1) = 1 by omega]; rfl
    have e2 : (toD p).extract 0 (p.length - 1) = toD p.dropLast := by
      rw [ext_take]
      show toD (((toD p).data.toList.drop 0).take _) = _
      rw [toD_data, List.drop_zero, Nat.sub_zero, List.dropLast_eq_take]
    have hg : (decide ((0 : Int) ≤ ((p.length - 1 : Nat) : Int)) && decide (((p.length - 1 : Nat) : Int) ≤ (p.length : Int))) = true := by
      rw [decide_eq_true (by omega), decide_eq_true (by omega)]; rfl
    rw [e, hg, decide_eq_true h]
    simp only [Bool.or_true, gd_true, Bool.true_and, toNat_nat, Option.bind_some]
    rw [e1, e2, toD_beq]
    unfold trimL
    rw [List.getLast?_eq_some_getLast hne]
    by_cases hc : p.getLast hne = 10
    · rw [decide_eq_true (by rw [hc]), if_pos (by rw [hc])]; rfl
    · rw [decide_eq_false (fun e => hc (List.cons.inj e).1), if_neg (fun e => hc (Option.some.inj e))]; rfl
  · obtain rfl : p = [] := List.eq_nil_of_length_eq_zero (by omega)
    rfl
/-- Pages, and what the last one has, behind some pieces. -/
def pgF : List (List UInt8) → List UInt8 → List (List UInt8) → List (List UInt8) × List UInt8
  | o, cur, [] => (o, cur)
  | o, cur, p :: r => if trimL p = [12] then pgF (o ++ [cur]) [] r else pgF o (cur ++ p) r
theorem str_ff : str0c = toD [12] := rfl
theorem pages_l (ps : List (List UInt8)) (hn : ps.length ≤ 1000000) (hs : sumL ps ≤ 1000000) (κ : (List D × List D) → Option (List D)) : ∀ (n i k : Nat) (o : List (List UInt8)) (cur : List UInt8), ps.length - i ≤ n → n < k → i ≤ ps.length → o.length ≤ i → cur.length + sumL (ps.drop i) ≤ 1000000 →
    Gpaper_Pages.l122 k (wD o) (bD cur) (wD ps) (ps.length : Int) (i : Int) κ = κ (wD (pgF o cur (ps.drop i)).1, bD (pgF o cur (ps.drop i)).2) := by
  intro n
  induction n with
  | zero =>
    intro i k o cur h1 h2 h3 h4 h5
    obtain ⟨k, rfl⟩ : ∃ m, k = m + 1 := ⟨k - 1, by omega⟩
    rw [Gpaper_Pages.l122, dlt, decide_eq_false (by omega), cond_false, List.drop_eq_nil_of_le (by omega)]; rfl
  | succ n ih =>
    intro i k o cur h1 h2 h3 h4 h5
    obtain ⟨k, rfl⟩ : ∃ m, k = m + 1 := ⟨k - 1, by omega⟩
    rw [Gpaper_Pages.l122, dlt]
    by_cases h : i < ps.length
    · have hm := sumL_mem (List.getElem_mem h)
      rw [List.drop_eq_getElem_cons h, sumL_cons] at h5
      rw [decide_eq_true h, cond_true, gd_pos (inB_pos (by rw [wD_len]; omega)), toNat_nat, gd_pos (blt_pos (by rw [wD_len]; exact h)), rd_wD h, trim_f _ (by omega), Option.bind_some, str_ff, toD_beq, List.drop_eq_getElem_cons h, pgF]
      by_cases hc : trimL ps[i] = [12]
      · have e0 : ([.s (toD cur)] : List D).length = 1 := rfl
        rw [decide_eq_true hc, cond_true, if_pos hc, got_f, Option.bind_some]
        simp only
        rw [wD_len, e0, gd_pos (lim_pos (by omega)), wD_one, wD_app]
        unfold GBuilder_Reset.f
        rw [Option.bind_some, w_succ _ (by omega), show ([] : List D) = bD [] from rfl]
        exact ih (i + 1) k (o ++ [cur]) [] (by omega) (by omega) (by omega) (by rw [List.length_append, List.length_singleton]; omega) (by simp; omega)
      · rw [decide_eq_false hc, cond_false, if_neg hc, put_f _ _ (by omega), Option.bind_some]
        simp only
        rw [w_succ _ (by omega)]
        exact ih (i + 1) k o (cur ++ ps[i]) (by omega) (by omega) (by omega) (by omega) (by rw [List.length_append]; omega)
    · rw [decide_eq_false h, cond_false, List.drop_eq_nil_of_le (by omega)]; rfl
theorem sa_sum : ∀ (l cur : List UInt8), sumL (saA cur l) = cur.length + l.length ∧ (saA cur l).length ≤ l.length + 1
  | [], cur => by rw [saA, sumL_cons, sumL_nil]; exact ⟨rfl, Nat.le_refl _⟩
  | c :: r, cur => by
    rw [saA]
    split
    · have := sa_sum r []
      rw [sumL_cons, List.length_append, List.length_cons, List.length_cons, this.1]
      simp only [List.length_nil, List.length_cons]
      omega
    · have := sa_sum r (cur ++ [c])
      rw [List.length_append, List.length_singleton] at this
      rw [this.1, List.length_cons]; omega
theorem pgF_len : ∀ (r o : List (List UInt8)) (cur : List UInt8), (pgF o cur r).1.length ≤ o.length + r.length
  | [], o, cur => Nat.le_refl _
  | p :: r, o, cur => by
    rw [pgF]
    split
    · have := pgF_len r (o ++ [cur]) []
      rw [List.length_append, List.length_singleton] at this
      rw [List.length_cons]; omega
    · have := pgF_len r o (cur ++ p)
      rw [List.length_cons]; omega
/-- The pages of a text. -/
def pagesR (l : List UInt8) : List (List UInt8) := (pgF [] [] (saA [] l)).1 ++ [(pgF [] [] (saA [] l)).2]
theorem pages_f (l : List UInt8) (hl : l.length ≤ 50000) : Gpaper_Pages.f (toD l) = some (wD (pagesR l)) := by
  have hN := le_NN
  obtain ⟨h1, h2⟩ := sa_sum l []
  rw [List.length_nil] at h1
  have h3 := pgF_len (saA [] l) [] []
  rw [List.length_nil] at h3
  unfold Gpaper_Pages.f
  rw [after_f l (by omega), Option.bind_some, wD_len, show (0 : Int) = ((0 : Nat) : Int) from rfl]
  refine (pages_l (saA [] l) (by omega) (by omega) _ (saA [] l).length 0 NN [] [] (by omega) (by omega) (by omega) (by simp) (by simp; omega)).trans ?_
  rw [List.drop_zero]
  simp only
  have e0 : ([.s (toD (pgF [] [] (saA [] l)).2)] : List D).length = 1 := rfl
  rw [got_f, Option.bind_some]
  simp only
  rw [wD_len, e0, gd_pos (lim_pos (by omega)), wD_one, wD_app]
  rfl
theorem rline_l (l : List UInt8) (hl : l.length ≤ 1000000) (out : List D) (fr st : Int) (κ : (ByteArray × List D × Int × Int × Int) → Option (List D)) : ∀ (n p k : Nat) (a : List UInt8), l.length - p ≤ n → n < k → (∃ b, l.drop p = a ++ 10 :: b) ∨ l.drop p = a → 10 ∉ a → p ≤ l.length →
    Gr28_Pages.l3860 k (toD l) out fr st (p : Int) κ = κ (toD l, out, fr, st, ((p + a.length : Nat) : Int)) := by
  intro n
  induction n with
  | zero =>
    intro p k a h1 h2 h3 h4 h5
    obtain ⟨k, rfl⟩ : ∃ m, k = m + 1 := ⟨k - 1, by omega⟩
    have hd : l.drop p = [] := List.drop_eq_nil_of_le (by omega)
    have ha : a = [] := by
      rcases h3 with ⟨b, h⟩ | h
      · rw [hd] at h; simp at h
      · rw [hd] at h; exact h.symm
    rw [Gr28_Pages.l3860, toD_size, dlt, decide_eq_false (by omega), ha]; rfl
  | succ n ih =>
    intro p k a h1 h2 h3 h4 h5
    obtain ⟨k, rfl⟩ : ∃ m, k = m + 1 := ⟨k - 1, by omega⟩
    rw [Gr28_Pages.l3860, toD_size, dlt]
    by_cases h : p < l.length
    · rw [decide_eq_true h, inB_pos (by omega), toNat_nat, bt_toD h]
      simp only [Bool.or_true, gd_true, Bool.true_and]
      rw [List.drop_eq_getElem_cons h] at h3
      match a with
      | [] =>
        have hc : l[p] = 10 := by
          rcases h3 with ⟨b, h3⟩ | h3
          · exact (List.cons.inj h3).1
          · cases h3
        rw [hc]; rfl
      | c :: a =>
        rw [List.mem_cons, not_or] at h4
        have hc : l[p] = c := by
          rcases h3 with ⟨b, h3⟩ | h3
          · exact (List.cons.inj h3).1
          · exact (List.cons.inj h3).1
        have hne : ((l[p].toNat : Int) != 10) = true := by
          rw [bne_iff_ne]
          intro e
          have : l[p].toNat = 10 := by omega
          exact h4.1 (by rw [← hc]; exact (UInt8.toNat_inj.1 this).symm)
        rw [hne, cond_true, w_succ _ (by omega), ih (p + 1) k a (by omega) (by omega) ?_ h4.2 (by omega)]
        · congr 6
          simp only [List.length_cons]; omega
        · rcases h3 with ⟨b, h3⟩ | h3
          · exact .inl ⟨b, (List.cons.inj h3).2⟩
          · exact .inr (List.cons.inj h3).2
    · have hd : l.drop p = [] := List.drop_eq_nil_of_le (by omega)
      have ha : a = [] := by
        rcases h3 with ⟨b, h⟩ | h
        · rw [hd] at h; simp at h
        · rw [hd] at h; exact h.symm
      rw [decide_eq_false h, ha]; rfl
theorem ext_sub (l : List UInt8) (a b : Nat) : (toD l).extract a b = toD ((l.drop a).take (b - a)) := by
  rw [ext_take]
theorem rpages_l (l : List UInt8) (hl : l.length ≤ 1000000) (κ : (ByteArray × List D × Int) → Option (List D)) : ∀ (n fr p k : Nat) (o : List (List UInt8)), l.length + 1 - p ≤ n → n < k → fr ≤ p → fr ≤ l.length → p ≤ l.length + 1 → o.length ≤ p →
    ∃ fr', fr' ≤ l.length ∧ (pgF o ((l.drop fr).take (p - fr)) (saA [] (l.drop p))).2 = l.drop fr' ∧ Gr28_Pages.l60 k (toD l) (wD o) (fr : Int) (p : Int) κ = κ (toD l, wD (pgF o ((l.drop fr).take (p - fr)) (saA [] (l.drop p))).1, (fr' : Int)) := by
  intro n
  have fin : ∀ (fr p k : Nat) (o : List (List UInt8)), fr ≤ p → fr ≤ l.length → l.length ≤ p → ∃ fr', fr' ≤ l.length ∧ (pgF o ((l.drop fr).take (p - fr)) (saA [] (l.drop p))).2 = l.drop fr' ∧ Gr28_Pages.l60 (k + 1) (toD l) (wD o) (fr : Int) (p : Int) κ = κ (toD l, wD (pgF o ((l.drop fr).take (p - fr)) (saA [] (l.drop p))).1, (fr' : Int)) := fun fr p k o h1 h2 h3 => by
    have e : pgF o ((l.drop fr).take (p - fr)) (saA [] (l.drop p)) = (o, l.drop fr) := by
      rw [List.drop_eq_nil_of_le (show l.length ≤ p by omega), saA, pgF, if_neg (by unfold trimL; simp), pgF, List.append_nil, List.take_of_length_le (by rw [List.length_drop]; omega)]
    rw [e]
    exact ⟨fr, h2, rfl, by rw [Gr28_Pages.l60, toD_size, dlt, decide_eq_false (by omega), cond_false]⟩
  induction n with
  | zero =>
    intro fr p k o h1 h2 h3 h4 h5 h6
    obtain ⟨k, rfl⟩ : ∃ m, k = m + 1 := ⟨k - 1, by omega⟩
    exact fin fr p k o h3 h4 (by omega)
  | succ n ih =>
    intro fr p k o h1 h2 h3 h4 h5 h6
    obtain ⟨k, rfl⟩ : ∃ m, k = m + 1 := ⟨k - 1, by omega⟩
    have hN := le_NN
    by_cases h : p < l.length
    · obtain ⟨a, t, q, ha, hsplit, hsa, hq, hqd⟩ : ∃ (a t : List UInt8) (q : Nat), 10 ∉ a ∧ ((∃ b, l.drop p = a ++ 10 :: b) ∨ l.drop p = a) ∧ saA [] (l.drop p) = t :: (if q = l.length + 1 then [] else saA [] (l.drop q)) ∧ q = p + a.length + 1 ∧ (trimL t = a ∧ (l.drop p).take (q - p) = t) := by
        rcases lf_split (l.drop p) with hn | ⟨a, b, e, ha⟩
        · refine ⟨l.drop p, l.drop p, p + (l.drop p).length + 1, hn, .inr rfl, ?_, rfl, trim_none hn, ?_⟩
          · rw [sa_none hn, if_pos (by rw [List.length_drop]; omega)]
          · rw [List.take_of_length_le (by omega)]
        · have hlen := congrArg List.length e
          rw [List.length_drop, List.length_append, List.length_cons] at hlen
          refine ⟨a, a ++ [10], p + a.length + 1, ha, .inl ⟨b, e⟩, ?_, rfl, trim_some a, ?_⟩
          · have hd : l.drop (p + a.length + 1) = b := by
              rw [Nat.add_assoc, ← List.drop_drop, e, List.drop_append, List.drop_eq_nil_of_le (by omega), Nat.add_sub_cancel_left]; rfl
            rw [if_neg (by omega), hd, e, sa_some ha]
          · rw [e, show p + a.length + 1 - p = a.length + 1 by omega, List.take_append, List.take_of_length_le (by omega), Nat.add_sub_cancel_left]; rfl
      obtain ⟨htr, htk⟩ := hqd
      have hal : a.length ≤ l.length - p := by
        rcases hsplit with ⟨b, e⟩ | e
        · have := congrArg List.length e
          rw [List.length_drop, List.length_append] at this; omega
        · have := congrArg List.length e
          rw [List.length_drop] at this; omega
      have hseg : (l.drop p).take (p + a.length - p) = a := by
        rw [Nat.add_sub_cancel_left]
        rcases hsplit with ⟨b, e⟩ | e
        · rw [e, List.take_left' rfl]
        · rw [e, List.take_of_length_le (Nat.le_refl _)]
      have hrest : ∀ (o' : List (List UInt8)) (c : List UInt8), pgF o' c (if q = l.length + 1 then [] else saA [] (l.drop q)) = pgF o' c (saA [] (l.drop q)) := fun o' c => by
        by_cases hqe : q = l.length + 1
        · rw [if_pos hqe, List.drop_eq_nil_of_le (by omega), saA, pgF, pgF, if_neg (by unfold trimL; simp), pgF, List.append_nil]
        · rw [if_neg hqe]
      have g1 : (decide ((0 : Int) ≤ (p : Int)) && (decide ((p : Int) ≤ ((p + a.length : Nat) : Int)) && decide (((p + a.length : Nat) : Int) ≤ (l.length : Int)))) = true := by
        rw [decide_eq_true (by omega), decide_eq_true (by omega), decide_eq_true (by omega)]; rfl
      have g2 : (decide ((0 : Int) ≤ (fr : Int)) && (decide ((fr : Int) ≤ (p : Int)) && decide ((p : Int) ≤ (l.length : Int)))) = true := by
        rw [decide_eq_true (by omega), decide_eq_true (by omega), decide_eq_true (by omega)]; rfl
      rw [Gr28_Pages.l60, toD_size, dlt, decide_eq_true h, cond_true, rline_l l hl _ _ _ _ l.length p NN a (by omega) (by omega) hsplit ha (by omega)]
      dsimp only
      rw [toD_size, gd_pos g1, toNat_nat, toNat_nat, ext_sub, hseg, str_ff, toD_beq, hsa, pgF, htr]
      by_cases hc : a = [12]
      · have e0 : ∀ x, ([.s x] : List D).length = 1 := fun _ => rfl
        have hfr : (if (l.length : Int) < ((p + a.length + 1 : Nat) : Int) then (l.length : Int) else ((p + a.length + 1 : Nat) : Int)) = ((min l.length q : Nat) : Int) := by
          rw [← hq, Nat.min_def]; split <;> split <;> omega
        rw [decide_eq_true hc, cond_true, if_pos hc, gd_pos g2, wD_len, e0, gd_pos (lim_pos (by omega)), toNat_nat, ext_sub, wD_one, wD_app, w_succ _ (by omega), hfr, hrest]
        have hcur : (l.drop (min l.length q)).take (q - min l.length q) = [] := by
          rcases Nat.le_total l.length q with h' | h'
          · rw [Nat.min_eq_left h', List.drop_eq_nil_of_le (Nat.le_refl _), List.take_nil]
          · rw [Nat.min_eq_right h', Nat.sub_self, List.take_zero]
        have := ih (min l.length q) q k (o ++ [(l.drop fr).take (p - fr)]) (by omega) (by omega) (Nat.min_le_right _ _) (Nat.min_le_left _ _) (by omega) (by rw [List.length_append, List.length_singleton]; omega)
        rw [hcur] at this
        rw [← hq]
        exact this
      · have hcur : (l.drop fr).take (p - fr) ++ t = (l.drop fr).take (q - fr) := by
          rw [← htk, show q - fr = (p - fr) + (q - p) by omega, List.take_add, List.drop_drop, show fr + (p - fr) = p by omega]
        rw [decide_eq_false hc, cond_false, if_neg hc, w_succ _ (by omega), hrest, hcur, ← hq]
        exact ih fr q k o (by omega) (by omega) (by omega) h4 (by omega) (by omega)
    · exact fin fr p k o h3 h4 (by omega)
theorem rpages_f (l : List UInt8) (hl : l.length ≤ 50000) : Gr28_Pages.f (toD l) = some (wD (pagesR l)) := by
  have hN := le_NN
  obtain ⟨h1, h2⟩ := sa_sum l []
  have h3 := pgF_len (saA [] l) [] []
  rw [List.length_nil] at h3
  unfold Gr28_Pages.f
  obtain ⟨fr', q1, q2, q3⟩ := rpages_l l (by omega) (fun y2 => gd (decide (0 ≤ y2.2.2) && decide (y2.2.2 ≤ (y2.1.size : Int))) (gd (Nat.ble (y2.2.1.length + ([.s (y2.1.extract y2.2.2.toNat y2.1.size)] : List D).length) lim) (some (y2.2.1 ++ ([.s (y2.1.extract y2.2.2.toNat y2.1.size)] : List D))))) (l.length + 1) 0 0 NN [] (by omega) (by omega) (by omega) (by omega) (by omega) (by simp)
  rw [List.drop_zero, Nat.sub_self, List.take_zero] at q2 q3
  refine q3.trans ?_
  have e0 : ∀ x, ([.s x] : List D).length = 1 := fun _ => rfl
  dsimp only
  have g1 : (decide ((0 : Int) ≤ (fr' : Int)) && decide ((fr' : Int) ≤ ((toD l).size : Int))) = true := by
    rw [toD_size, decide_eq_true (by omega), decide_eq_true (by omega)]; rfl
  rw [gd_pos g1, e0, wD_len, gd_pos (lim_pos (by omega)), toNat_nat, toD_size, ext_sub, List.take_of_length_le (by rw [List.length_drop]; exact Nat.le_refl _), ← q2, wD_one, wD_app]; rfl
theorem pagesR_len (l : List UInt8) : (pagesR l).length ≤ l.length + 2 := by
  have h2 := (sa_sum l []).2
  have h3 := pgF_len (saA [] l) [] []
  rw [List.length_nil] at h3
  unfold pagesR
  rw [List.length_append, List.length_singleton]; omega
theorem words_len : ∀ (l cur : List UInt8), (wordsA cur l).length ≤ l.length + 1
  | [], cur => by
    rw [wordsA]
    split
    · exact Nat.zero_le _
    · exact Nat.le_refl _
  | c :: r, cur => by
    rw [wordsA]
    split
    · split
      · have := words_len r []; rw [List.length_cons]; omega
      · have := words_len r []; rw [List.length_cons, List.length_cons]; omega
    · have := words_len r (cur ++ [c]); rw [List.length_cons]; omega
/-- The law of cutting. -/
theorem law_cuts (l : List UInt8) (width : Int) : Gw28_PaperCuts.f (toD l) width = some true := by
  unfold Gw28_PaperCuts.f
  rw [toD_size]
  by_cases h : 50000 < l.length ∨ 5000 < width
  · have : (decide ((l.length : Int) > 50000) || decide (width > 5000)) = true := by rw [Bool.or_eq_true, decide_eq_true_eq, decide_eq_true_eq]; omega
    rw [this, cond_true, awake_f]; rfl
  · have : (decide ((l.length : Int) > 50000) || decide (width > 5000)) = false := by rw [Bool.or_eq_false_iff, decide_eq_false_iff_not, decide_eq_false_iff_not]; omega
    have h1 : (wordsL l).length ≤ l.length + 1 := words_len l []
    have h2 := pagesR_len l
    rw [this, cond_false, words_f l (by omega), Option.bind_some, rwords_f l (by omega), Option.bind_some, eqs_f _ _ (by omega), Option.bind_some, decide_eq_true rfl, cond_true, cond_true, centre_f l width (by omega) (by omega), Option.bind_some, rcentre_f l width (by omega) (by omega), Option.bind_some, toD_beq, decide_eq_true rfl, Bool.and_self, cond_true, pages_f l (by omega), Option.bind_some, rpages_f l (by omega), Option.bind_some, eqs_f _ _ (by omega), Option.bind_some, decide_eq_true rfl, cond_true, awake_f]
    rfl
end Go.Pv

namespace Go.Pv
open Go.Proofs
set_option maxRecDepth 20000
theorem list_of {α : Type} (f : α → D) : ∀ (xs : List D), (∀ x ∈ xs, ∃ a, x = f a) → ∃ l : List α, xs = l.map f
  | [], _ => ⟨[], rfl⟩
  | x :: r, h => by
    obtain ⟨a, ha⟩ := h x (List.mem_cons_self ..)
    obtain ⟨l, hl⟩ := list_of f r fun y hy => h y (List.mem_cons_of_mem _ hy)
    exact ⟨a :: l, by rw [ha, hl]; rfl⟩
theorem byte_of {d : D} {i : Int} (h1 : d = .i i) (h2 : (Lit.int .u8 i).wf = true) : ∃ c : UInt8, d = .i (c.toNat : Int) := by
  have h : 0 ≤ i ∧ i < 256 := by
    simp [Lit.wf, IntKind.min, IntKind.max, IntKind.bits, IntKind.signed] at h2
    omega
  refine ⟨UInt8.ofNat i.toNat, ?_⟩
  rw [h1, UInt8.toNat_ofNat', Nat.mod_eq_of_lt (by omega)]
  congr 1; omega
theorem isAstr : isA Tryd.prog 9 = false := by kernel_rfl
theorem isAu8 : isA Tryd.prog 5 = false := by kernel_rfl
theorem bytes_of {n M : Nat} {xs : List D} (h : ∀ x ∈ xs, (isA Tryd.prog 5 = true → ∃ ds, x = .r ds ∧ ds.length = csz Tryd.prog 5) ∧ WfM Tryd.prog M (n + 1) 5 fun j => x.ecell (isA Tryd.prog 5) j) : ∃ l, xs = bD l := by
  refine list_of (fun b : UInt8 => D.i (b.toNat : Int)) xs fun x hx => ?_
  have hw := (h x hx).2
  rw [isAu8] at hw
  obtain ⟨i, h1, h2⟩ := wf_int hw Tryd.underlying5
  have h1 : x = .i i := h1
  exact byte_of h1 h2
/-- Words that come in. -/
theorem words_of {n M : Nat} {xs : List D} (h : xs.length * Tryd.prog.bytesOf 9 ≤ 140737488351232 ∧ ∀ x ∈ xs, (isA Tryd.prog 9 = true → ∃ ds, x = .r ds ∧ ds.length = csz Tryd.prog 9) ∧ WfM Tryd.prog M (n + 1) 9 fun j => x.ecell (isA Tryd.prog 9) j) (hM : M ≤ 140737488355328) :
    ∃ ws, xs = wD ws ∧ ws.length ≤ 140737488355328 ∧ ∀ w ∈ ws, w.length ≤ 140737488355328 := by
  obtain ⟨h0, h⟩ := h
  rw [show Tryd.prog.bytesOf 9 = 16 by kernel_rfl] at h0
  have hs : ∀ x ∈ xs, ∃ s : ByteArray, x = .s s ∧ s.size ≤ M := fun x hx => by
    have hw := (h x hx).2
    rw [isAstr] at hw
    exact wf_str hw Tryd.underlying9
  obtain ⟨ws, rfl⟩ := list_of (fun w : List UInt8 => D.s (toD w)) xs fun x hx => by
    obtain ⟨s, hs, -⟩ := hs x hx
    exact ⟨s.data.toList, by rw [hs, toD_eq]⟩
  rw [List.length_map] at h0
  refine ⟨ws, rfl, by omega, fun w hw => ?_⟩
  obtain ⟨s, h1, h2⟩ := hs _ (List.mem_map_of_mem (f := fun w : List UInt8 => D.s (toD w)) hw)
  obtain rfl : toD w = s := by simpa using h1
  rw [toD_size] at h2; omega
/-- Files that come in. -/
theorem files_of {n M : Nat} {xs : List D} (h : xs.length * Tryd.prog.bytesOf 43 ≤ 140737488351232 ∧ ∀ x ∈ xs, (isA Tryd.prog 43 = true → ∃ ds, x = .r ds ∧ ds.length = csz Tryd.prog 43) ∧ WfM Tryd.prog M (n + 3) 43 fun j => x.ecell (isA Tryd.prog 43) j) (hM : M ≤ 140737488355328) :
    ∃ fs, xs = fD fs ∧ fs.length ≤ 140737488355328 ∧ ∀ f ∈ fs, f.1.length ≤ 140737488355328 ∧ f.2.length ≤ 140737488355328 := by
  obtain ⟨h0, h⟩ := h
  rw [show Tryd.prog.bytesOf 43 = 40 by kernel_rfl] at h0
  have hA : isA Tryd.prog 43 = true := by kernel_rfl
  have hC : csz Tryd.prog 43 = 2 := by kernel_rfl
  have hs : ∀ x ∈ xs, ∃ f : F2, x = fE f ∧ f.1.length ≤ 140737488355328 ∧ f.2.length ≤ 140737488355328 := fun x hx => by
    obtain ⟨q1, hw⟩ := h x hx
    obtain ⟨ds, e1, e2⟩ := q1 hA
    rw [hC] at e2
    rw [hA] at hw
    obtain ⟨s, s1, s2⟩ := wf_str (wf_struct hw Tryd.underlying43 (i := 0) rfl) Tryd.underlying9
    obtain ⟨l, l1, l2, l3⟩ := wf_slice (wf_struct hw Tryd.underlying43 (i := 1) rfl) Tryd.underlying25
    rw [show Tryd.prog.bytesOf 5 = 1 by kernel_rfl] at l2
    have s1 : x.cell 0 = .s s := s1
    have l1 : x.cell 1 = .l l := l1
    obtain ⟨b, rfl⟩ := bytes_of l3
    rw [bD_len] at l2
    match ds, e2 with
    | [a, c], _ =>
      subst e1
      have s1 : a = .s s := s1
      have l1 : c = .l (bD b) := l1
      refine ⟨(s.data.toList, b), by rw [s1, l1], ?_, ?_⟩
      · show s.data.toList.length ≤ _
        rw [data_len]; omega
      · show b.length ≤ _
        omega
  obtain ⟨fs, rfl⟩ := list_of fE xs fun x hx => by
    obtain ⟨f, hf, -⟩ := hs x hx
    exact ⟨f, hf⟩
  rw [List.length_map] at h0
  refine ⟨fs, rfl, by omega, fun f hf => ?_⟩
  obtain ⟨g, h1, h2⟩ := hs _ (List.mem_map_of_mem (f := fE) hf)
  have e : toD f.1 = toD g.1 ∧ bD f.2 = bD g.2 := by simpa using h1
  have e1 := toD_inj e.1
  have e2 : f.2.length = g.2.length := by rw [← bD_len, e.2, bD_len]
  rw [e1, e2]; exact h2
end Go.Pv
