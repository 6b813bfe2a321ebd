/- The comparisons of lists, in plain words. -/
import Derived.Test.YtkmcanknbdaliaaQChecksCheck
import Derived.Test.YtkmcanknbdaliaaQChecks4
import Derived.Test.YtkmcanknbdaliaaQChecks5
namespace Go.Proofs.Ytkmcanknbdaliaa.Lx
open Go Go.RowKit Go.Proofs.YtkmcanknbdaliaaW.PrintWords Go.Proofs.YtkmcanknbdaliaaW.PrintLast Go.Proofs.YtkmcanknbdaliaaW.PrintMore Go.Proofs.Ytkmcanknbdaliaa.PO
def eqLB {α : Type} (f : α → α → Bool) : List α → List α → Bool
 | [], [] => true
 | a :: l, b :: m => f a b && eqLB f l m
 | _, _ => false
theorem eqLB_len {α : Type} {f : α → α → Bool} : ∀ {l m : List α}, eqLB f l m = true → l.length = m.length
 | [], [], _ => rfl
 | a :: l, b :: m, h => by rw [eqLB] at h; rw [List.length_cons, List.length_cons, eqLB_len (and2 h).2]
 | [], _ :: _, h => by simp [eqLB] at h
 | _ :: _, [], h => by simp [eqLB] at h
theorem eqLB_eq {α : Type} {f : α → α → Bool} (hf : ∀ a b, f a b = true → a = b) : ∀ {l m : List α}, eqLB f l m = true → l = m
 | [], [], _ => rfl
 | a :: l, b :: m, h => by rw [eqLB] at h; rw [hf a b (and2 h).1, eqLB_eq hf (and2 h).2]
 | [], _ :: _, h => by simp [eqLB] at h
 | _ :: _, [], h => by simp [eqLB] at h
theorem eqLB_refl {α : Type} {f : α → α → Bool} (hf : ∀ a, f a a = true) : ∀ l : List α, eqLB f l l = true
 | [] => rfl
 | a :: l => by rw [eqLB, hf a, eqLB_refl hf l]; rfl
theorem eqLB_symm {α : Type} {f : α → α → Bool} (hf : ∀ a b, f a b = f b a) : ∀ l m : List α, eqLB f l m = eqLB f m l
 | [], [] => rfl
 | a :: l, b :: m => by rw [eqLB, eqLB, hf a b, eqLB_symm hf l m]
 | [], _ :: _ => rfl
 | _ :: _, [] => rfl
def eqO (a b : S35) : Bool := a.f0 == b.f0 && (a.f1 == b.f1 && a.f2 == b.f2)
def eqE (a b : S68) : Bool := a.f0 == b.f0 && a.f1 == b.f1
def eqI (a b : Int) : Bool := a == b
theorem dropG {α : Type} (l : List α) (d : α) (i : Nat) (h : i < l.length) : l.drop i = l.getD i d :: l.drop (i + 1) := by
 rw [List.drop_eq_getElem_cons h, List.getD_eq_getElem?_getD, List.getElem?_eq_getElem h, Option.getD_some]
theorem dropE (l : List S68) (k : Nat) (hk : k < l.length) : l.drop k = rd_T68 l (k : Int) :: l.drop (k + 1) := by
 rw [List.drop_eq_getElem_cons hk]
 congr 1
 simp [rd_T68, List.getD_eq_getElem?_getD, List.getElem?_eq_getElem hk]
theorem dropI (l : List Int) (k : Nat) (hk : k < l.length) : l.drop k = rd l (k : Int) :: l.drop (k + 1) := by
 rw [List.drop_eq_getElem_cons hk]
 congr 1
 unfold rd
 rw [Int.toNat_natCast, List.getD_eq_getElem?_getD, List.getElem?_eq_getElem hk, Option.getD_some]
theorem drop_op' (l : List S35) (k : Nat) (hk : k < l.length) : l.drop k = rd_T35 l (k : Int) :: l.drop (k + 1) := drop_opAt l k hk
theorem api_Op_50_l0 (l m : List S35) (hl : l.length ≤ 1000000000) (hm : l.length = m.length) : ∀ (n i : Nat) (k : Nat), l.length - i = n → i ≤ l.length → n < k → api_Op_50.l0 k l m (l.length : Int) (i : Int) = some (eqLB eqO (l.drop i) (m.drop i))
 | 0, i, k, hn, hi, hk => by
  obtain ⟨k, rfl⟩ : ∃ m, k = m + 1 := ⟨k - 1, by omega⟩
  rw [List.drop_eq_nil_of_le (by omega), List.drop_eq_nil_of_le (by omega)]
  simp only [api_Op_50.l0]
  rw [if_neg (by omega)]
  rfl
 | n + 1, i, k, hn, hi, hk => by
  obtain ⟨k, rfl⟩ : ∃ m, k = m + 1 := ⟨k - 1, by omega⟩
  rw [drop_op' l i (by omega), drop_op' m i (by omega), eqLB]
  have ih := api_Op_50_l0 l m hl hm n (i + 1) k (by omega) (by omega) (by omega)
  simp only [api_Op_50.l0]
  rw [if_pos (by omega), if_pos (by omega), if_pos (by omega), if_pos (by omega), at_succ i (by omega), ih]
  generalize rd_T35 l (i : Int) = a
  generalize rd_T35 m (i : Int) = b
  unfold eqO
  cases h0 : a.f0 == b.f0 <;> cases h1 : a.f1 == b.f1 <;> cases h2 : a.f2 == b.f2 <;> rfl
theorem api_Op_50_f (l m : List S35) (hl : l.length ≤ 1000000000) (k : Nat) (hk : l.length < k) : api_Op_50.f k l m = some (eqLB eqO l m) := by
 unfold api_Op_50.f
 by_cases g : (l.length : Int) = (m.length : Int)
 ·rw [if_pos g]
  have q := api_Op_50_l0 l m hl (by omega) l.length 0 k (by omega) (by omega) hk
  rw [List.drop_zero, List.drop_zero] at q
  exact q
 ·rw [if_neg g]
  cases h : eqLB eqO l m with
  | true => have := eqLB_len h; omega
  | false => rfl
theorem api_Entry_51_l0 (l m : List S68) (hl : l.length ≤ 1000000000) (hm : l.length = m.length) : ∀ (n i : Nat) (k : Nat), l.length - i = n → i ≤ l.length → n < k → api_Entry_51.l0 k l m (l.length : Int) (i : Int) = some (eqLB eqE (l.drop i) (m.drop i))
 | 0, i, k, hn, hi, hk => by
  obtain ⟨k, rfl⟩ : ∃ m, k = m + 1 := ⟨k - 1, by omega⟩
  rw [List.drop_eq_nil_of_le (by omega), List.drop_eq_nil_of_le (by omega)]
  simp only [api_Entry_51.l0]
  rw [if_neg (by omega)]
  rfl
 | n + 1, i, k, hn, hi, hk => by
  obtain ⟨k, rfl⟩ : ∃ m, k = m + 1 := ⟨k - 1, by omega⟩
  rw [dropE l i (by omega), dropE m i (by omega), eqLB]
  have ih := api_Entry_51_l0 l m hl hm n (i + 1) k (by omega) (by omega) (by omega)
  simp only [api_Entry_51.l0]
  rw [if_pos (by omega), if_pos (by omega), if_pos (by omega), if_pos (by omega), at_succ i (by omega), ih]
  generalize rd_T68 l (i : Int) = a
  generalize rd_T68 m (i : Int) = b
  unfold eqE
  cases h0 : a.f0 == b.f0 <;> cases h1 : a.f1 == b.f1 <;> rfl
theorem api_Entry_51_f (l m : List S68) (hl : l.length ≤ 1000000000) (k : Nat) (hk : l.length < k) : api_Entry_51.f k l m = some (eqLB eqE l m) := by
 unfold api_Entry_51.f
 by_cases g : (l.length : Int) = (m.length : Int)
 ·rw [if_pos g]
  have q := api_Entry_51_l0 l m hl (by omega) l.length 0 k (by omega) (by omega) hk
  rw [List.drop_zero, List.drop_zero] at q
  exact q
 ·rw [if_neg g]
  cases h : eqLB eqE l m with
  | true => have := eqLB_len h; omega
  | false => rfl
theorem slices_Equal_int_int_l0 (l m : List Int) (hl : l.length ≤ 1000000000) (hm : l.length = m.length) : ∀ (n i : Nat) (k : Nat), l.length - i = n → i ≤ l.length → n < k → slices_Equal_int_int.l0 k l m (l.length : Int) (i : Int) = some (eqLB eqI (l.drop i) (m.drop i))
 | 0, i, k, hn, hi, hk => by
  obtain ⟨k, rfl⟩ : ∃ m, k = m + 1 := ⟨k - 1, by omega⟩
  rw [List.drop_eq_nil_of_le (by omega), List.drop_eq_nil_of_le (by omega)]
  simp only [slices_Equal_int_int.l0]
  rw [if_neg (by omega)]
  rfl
 | n + 1, i, k, hn, hi, hk => by
  obtain ⟨k, rfl⟩ : ∃ m, k = m + 1 := ⟨k - 1, by omega⟩
  rw [dropI l i (by omega), dropI m i (by omega), eqLB]
  have ih := slices_Equal_int_int_l0 l m hl hm n (i + 1) k (by omega) (by omega) (by omega)
  simp only [slices_Equal_int_int.l0]
  rw [if_pos (by omega), if_pos (by omega), if_pos (by omega), if_pos (by omega), at_succ i (by omega), ih]
  generalize rd l (i : Int) = a
  generalize rd m (i : Int) = b
  unfold eqI
  by_cases g : a = b
  ·rw [if_pos g, beq_iff_eq.2 g]; rfl
  ·rw [if_neg g, beq_eq_false_iff_ne.2 g]; rfl
theorem slices_Equal_int_int_f (l m : List Int) (hl : l.length ≤ 1000000000) (k : Nat) (hk : l.length < k) : slices_Equal_int_int.f k l m = some (eqLB eqI l m) := by
 unfold slices_Equal_int_int.f
 by_cases g : (l.length : Int) = (m.length : Int)
 ·rw [if_pos g]
  have q := slices_Equal_int_int_l0 l m hl (by omega) l.length 0 k (by omega) (by omega) hk
  rw [List.drop_zero, List.drop_zero] at q
  exact q
 ·rw [if_neg g]
  cases h : eqLB eqI l m with
  | true => have := eqLB_len h; omega
  | false => rfl
theorem bluebellref00_EqInts_l0 (l m : List Int) (hl : l.length ≤ 1000000000) (hm : l.length = m.length) : ∀ (n i : Nat) (k : Nat), l.length - i = n → i ≤ l.length → n < k → bluebellref00_EqInts.l0 k l m (i : Int) = some (eqLB eqI (l.drop i) (m.drop i))
 | 0, i, k, hn, hi, hk => by
  obtain ⟨k, rfl⟩ : ∃ m, k = m + 1 := ⟨k - 1, by omega⟩
  rw [List.drop_eq_nil_of_le (by omega), List.drop_eq_nil_of_le (by omega)]
  simp only [bluebellref00_EqInts.l0]
  rw [if_neg (by omega)]
  rfl
 | n + 1, i, k, hn, hi, hk => by
  obtain ⟨k, rfl⟩ : ∃ m, k = m + 1 := ⟨k - 1, by omega⟩
  rw [dropI l i (by omega), dropI m i (by omega), eqLB]
  have ih := bluebellref00_EqInts_l0 l m hl hm n (i + 1) k (by omega) (by omega) (by omega)
  simp only [bluebellref00_EqInts.l0]
  rw [if_pos (by omega), if_pos (by omega), if_pos (by omega), at_succ i (by omega), ih]
  generalize rd l (i : Int) = a
  generalize rd m (i : Int) = b
  unfold eqI
  by_cases g : a = b
  ·rw [if_pos g, beq_iff_eq.2 g]; rfl
  ·rw [if_neg g, beq_eq_false_iff_ne.2 g]; rfl
theorem bluebellref00_EqInts_f (l m : List Int) (hl : l.length ≤ 1000000000) (k : Nat) (hk : l.length < k) : bluebellref00_EqInts.f k l m = some (eqLB eqI l m) := by
 unfold bluebellref00_EqInts.f
 by_cases g : (l.length : Int) = (m.length : Int)
 ·rw [if_pos g]
  have q := bluebellref00_EqInts_l0 l m hl (by omega) l.length 0 k (by omega) (by omega) hk
  rw [List.drop_zero, List.drop_zero] at q
  exact q
 ·rw [if_neg g]
  cases h : eqLB eqI l m with
  | true => have := eqLB_len h; omega
  | false => rfl
theorem bluebellref00_EqOps_l0 (l m : List S35) (hl : l.length ≤ 1000000000) (hm : l.length = m.length) : ∀ (n i : Nat) (k : Nat), l.length - i = n → i ≤ l.length → n < k → bluebellref00_EqOps.l0 k l m (i : Int) = some (eqLB eqO (l.drop i) (m.drop i))
 | 0, i, k, hn, hi, hk => by
  obtain ⟨k, rfl⟩ : ∃ m, k = m + 1 := ⟨k - 1, by omega⟩
  rw [List.drop_eq_nil_of_le (by omega), List.drop_eq_nil_of_le (by omega)]
  simp only [bluebellref00_EqOps.l0]
  rw [if_neg (by omega)]
  rfl
 | n + 1, i, k, hn, hi, hk => by
  obtain ⟨k, rfl⟩ : ∃ m, k = m + 1 := ⟨k - 1, by omega⟩
  rw [drop_op' l i (by omega), drop_op' m i (by omega), eqLB]
  have ih := bluebellref00_EqOps_l0 l m hl hm n (i + 1) k (by omega) (by omega) (by omega)
  simp only [bluebellref00_EqOps.l0]
  rw [if_pos (by omega), if_pos (by omega), if_pos (by omega), at_succ i (by omega), ih]
  generalize rd_T35 l (i : Int) = a
  generalize rd_T35 m (i : Int) = b
  unfold eqO
  cases h0 : a.f0 == b.f0 <;> cases h1 : a.f1 == b.f1 <;> cases h2 : a.f2 == b.f2 <;> rfl
theorem bluebellref00_EqOps_f (l m : List S35) (hl : l.length ≤ 1000000000) (k : Nat) (hk : l.length < k) : bluebellref00_EqOps.f k l m = some (eqLB eqO l m) := by
 unfold bluebellref00_EqOps.f
 by_cases g : (l.length : Int) = (m.length : Int)
 ·rw [if_pos g]
  have q := bluebellref00_EqOps_l0 l m hl (by omega) l.length 0 k (by omega) (by omega) hk
  rw [List.drop_zero, List.drop_zero] at q
  exact q
 ·rw [if_neg g]
  cases h : eqLB eqO l m with
  | true => have := eqLB_len h; omega
  | false => rfl
end Go.Proofs.Ytkmcanknbdaliaa.Lx
