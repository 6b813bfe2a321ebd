/- What the small functions over instructions answer, in plain words, and their contracts. -/
import Derived.Test.YtkmcanknbdaliaaQChecksCod
import Derived.Test.YtkmcanknbdaliaaQChecksAreas
import Derived.Test.YtkmcanknbdaliaaQChecksKinds
import Derived.Test.YtkmcanknbdaliaaQChecks1
namespace Go.Proofs.Ytkmcanknbdaliaa.Lx
open Go Go.RowKit Go.Proofs.YtkmcanknbdaliaaW.PrintWords Go.Proofs.YtkmcanknbdaliaaW.PrintLast Go.Proofs.YtkmcanknbdaliaaW.PrintMore Go.Proofs.Ytkmcanknbdaliaa.PO
abbrev Op := S35
def opV (o : Op) : Value := .agg #[.int .i64 o.f0, .int .i64 o.f1, .int .i64 o.f2]
def kindV (x : SKind) : Value := .agg #[.string x.f0, .int .i64 x.f1, .int .i64 x.f2, .int .i64 x.f3]
theorem w64 (n : Int) (h : -9223372036854775808 ≤ n ∧ n ≤ 9223372036854775807) : wrap64 n = n := by unfold wrap64; omega
/-- The instruction at a place. -/
def opAt (l : List Op) (i : Nat) : Op := rd_T35 l (i : Int)
theorem opAt_def (l : List Op) (i : Nat) : opAt l i = rd_T35 l (i : Int) := rfl
/-! ### Named -/
def namedI (o : Op) : Int := if o.f0 = 20 ∨ o.f0 = 21 ∨ o.f0 = 22 ∨ o.f0 = 27 ∨ o.f0 = 29 then o.f1 else if o.f0 = 30 then o.f2 else 0
theorem named_f (o : Op) : ocode_Named.f 1 o.f0 o.f1 o.f2 = some (namedI o) := by
 unfold ocode_Named.f namedI
 simp only [ocode_Named.j0, beq_iff_eq]
 by_cases h1 : o.f0 = 20
 ·simp [h1]
 by_cases h2 : o.f0 = 21
 ·simp [h2]
 by_cases h3 : o.f0 = 22
 ·simp [h3]
 by_cases h4 : o.f0 = 27
 ·simp [h4]
 by_cases h5 : o.f0 = 29
 ·simp [h5]
 by_cases h6 : o.f0 = 30
 ·simp [h6]
 simp [h1, h2, h3, h4, h5, h6]
theorem named_calls (o : Op) (w : World) : Calls Try.prog 35 #[opV o] w fun e w' => e = .returned (.int .i64 (namedI o)) ∧ Below w.heap.size w w' := ocode_Named.calls 1 _ _ _ _ w (named_f o)
/-! ### numbers -/
def numOk (o : Op) (c : Cod) (n : Int) : Bool :=
 if n = 0 then o.f1 == 0 else if n = 1 then wideB o.f1 else if n = 2 then inB o.f1 0 4000 else if n = 3 then inB o.f1 0 199 else if n = 4 then inB o.f1 0 (c.data.length - 1)
 else if n = 5 then inB o.f1 1 c.procs else if n = 6 then inB o.f1 1 c.labels else if n = 7 then inB o.f1 1 17 else if n = 8 then o.f1 == 18 || o.f1 == 19 else false
def numbersB (o : Op) (c : Cod) (x : SKind) : Bool :=
 numOk o c x.f1 && (if o.f0 = 24 then inB o.f2 0 8 else if o.f0 = 29 then inB o.f2 0 1000 else if o.f0 = 30 then inB o.f2 1 c.labels else o.f2 == 0)
theorem numbers_f (o : Op) (c : Cod) (x : SKind) (hd : c.data.length ≤ 1000000) : ocode_numbers.f 1 o.f0 o.f1 o.f2 c.name c.data c.ops c.gl c.procs c.labels x.f0 x.f1 x.f2 x.f3 = some (numbersB o c x) := by
 have hj : ∀ b, ocode_numbers.j0 1 b o.f0 o.f1 o.f2 c.name c.data c.ops c.gl c.procs c.labels = some (b && (if o.f0 = 24 then inB o.f2 0 8 else if o.f0 = 29 then inB o.f2 0 1000 else if o.f0 = 30 then inB o.f2 1 c.labels else o.f2 == 0)) := by
  intro b
  simp only [ocode_numbers.j0, in_f]
  cases b <;> simp <;> (repeat' split) <;> simp_all
 unfold ocode_numbers.f numbersB numOk
 rw [w64 _ (by omega)]
 by_cases h0 : x.f1 = 0
 ·simp only [if_pos h0, hj]
 by_cases h1 : x.f1 = 1
 ·simp only [if_neg h0, if_pos h1, in_f, wide_f, Option.bind_some, hj]
 by_cases h2 : x.f1 = 2
 ·simp only [if_neg h0, if_neg h1, if_pos h2, in_f, wide_f, Option.bind_some, hj]
 by_cases h3 : x.f1 = 3
 ·simp only [if_neg h0, if_neg h1, if_neg h2, if_pos h3, in_f, wide_f, Option.bind_some, hj]
 by_cases h4 : x.f1 = 4
 ·simp only [if_neg h0, if_neg h1, if_neg h2, if_neg h3, if_pos h4, in_f, wide_f, Option.bind_some, hj]
 by_cases h5 : x.f1 = 5
 ·simp only [if_neg h0, if_neg h1, if_neg h2, if_neg h3, if_neg h4, if_pos h5, in_f, wide_f, Option.bind_some, hj]
 by_cases h6 : x.f1 = 6
 ·simp only [if_neg h0, if_neg h1, if_neg h2, if_neg h3, if_neg h4, if_neg h5, if_pos h6, in_f, wide_f, Option.bind_some, hj]
 by_cases h7 : x.f1 = 7
 ·simp only [if_neg h0, if_neg h1, if_neg h2, if_neg h3, if_neg h4, if_neg h5, if_neg h6, if_pos h7, in_f, wide_f, Option.bind_some, hj]
 by_cases h8 : x.f1 = 8
 ·simp only [if_neg h0, if_neg h1, if_neg h2, if_neg h3, if_neg h4, if_neg h5, if_neg h6, if_neg h7, if_pos h8, hj]
  by_cases h9 : o.f1 = 18
  ·rw [if_pos h9, h9]; rfl
  ·rw [if_neg h9, beq_eq_false_iff_ne.2 h9, Bool.false_or]
 simp only [if_neg h0, if_neg h1, if_neg h2, if_neg h3, if_neg h4, if_neg h5, if_neg h6, if_neg h7, if_neg h8, hj]
theorem numbers_calls (o : Op) (c : Cod) (a : Adr) (x : SKind) (w : World) (h : CodAt w c a) (hd : c.data.length ≤ 1000000) :
  Calls Try.prog 63 #[opV o, .agg (codCells c a), kindV x] w fun e w' => e = .returned (.bool (numbersB o c x)) ∧ Below w.heap.size w w' :=
 ocode_numbers.calls 1 _ _ _ _ _ _ _ _ _ _ _ _ _ _ _ _ _ _ _ _ w h.h1 h.l1 h.h2 h.l2 h.h3 h.l3 (numbers_f o c x hd)
/-! ### Ends -/
def endsB (l : List Op) (i : Nat) : Bool :=
 if (opAt l i).f0 = 20 ∨ (opAt l i).f0 = 25 ∨ (opAt l i).f0 = 26 ∨ (opAt l i).f0 = 27 then true else if (opAt l i).f0 = 29 then (opAt l i).f2 == 0 else if (opAt l i).f0 = 30 then decide (i + 1 = l.length) || (opAt l (i + 1)).f0 != 30 else false
theorem ends_f (l : List Op) (i : Nat) (hi : i < l.length) (hl : l.length ≤ 1000000) (k : Nat) : ocode_Ends.f (k + 1) l (i : Int) = some (endsB l i) := by
 unfold ocode_Ends.f endsB
 have e1 : wrap64 ((i : Int) + 1) = ((i + 1 : Nat) : Int) := by rw [w64 _ (by omega)]; simp
 have p1 : (0 : Int) ≤ ((i + 1 : Nat) : Int) := by omega
 rw [if_pos (by omega : (0 : Int) ≤ i), if_pos (by omega : (i : Int) < l.length)]
 simp only [ocode_Ends.j0, e1, if_pos p1]
 rw [if_pos (by omega : (0 : Int) ≤ i), if_pos (by omega : (i : Int) < l.length)]
 unfold opAt
 by_cases h1 : (rd_T35 l (i : Int)).f0 = 20
 ·rw [if_pos h1, if_pos (beq_iff_eq.2 h1), if_pos (.inl h1)]
 by_cases h2 : (rd_T35 l (i : Int)).f0 = 25
 ·rw [if_neg h1, if_pos h2, if_pos (beq_iff_eq.2 h2), if_pos (.inr (.inl h2))]
 by_cases h3 : (rd_T35 l (i : Int)).f0 = 26
 ·rw [if_neg h1, if_neg h2, if_pos h3, if_pos (beq_iff_eq.2 h3), if_pos (.inr (.inr (.inl h3)))]
 by_cases h4 : (rd_T35 l (i : Int)).f0 = 27
 ·rw [if_neg h1, if_neg h2, if_neg h3, if_pos (beq_iff_eq.2 h4), if_pos (.inr (.inr (.inr h4)))]
 rw [if_neg h1, if_neg h2, if_neg h3, if_neg (show ¬ ((rd_T35 l (i : Int)).f0 = 20 ∨ (rd_T35 l (i : Int)).f0 = 25 ∨ (rd_T35 l (i : Int)).f0 = 26 ∨ (rd_T35 l (i : Int)).f0 = 27) by simp [h1, h2, h3, h4]), if_neg (show ¬ ((rd_T35 l (i : Int)).f0 == 27) = true from fun e => h4 (beq_iff_eq.1 e))]
 by_cases h5 : (rd_T35 l (i : Int)).f0 = 29
 ·rw [if_pos h5, if_pos h5]
 rw [if_neg h5, if_neg h5]
 by_cases h6 : (rd_T35 l (i : Int)).f0 = 30
 ·rw [if_pos h6, if_pos h6]
  by_cases h7 : i + 1 = l.length
  ·rw [if_pos (by omega), decide_eq_true h7, Bool.true_or]
  ·rw [if_neg (by omega), if_pos (by omega), decide_eq_false h7, Bool.false_or]
 ·rw [if_neg h6, if_neg h6]
theorem ends_calls (l : List Op) (A : Option Addr) (cc : Nat) (i : Nat) (w : World) (h : Kd.C k35 w A l.length l) (hc : l.length ≤ cc) (hi : i < l.length) (hl : l.length ≤ 1000000) : Calls Try.prog 69 #[.slice A l.length cc, .int .i64 (i : Int)] w fun e w' => e = .returned (.bool (endsB l i)) ∧ Drawn0 w w' :=
 ocode_Ends.calls 1 A cc l _ _ w h hc (ends_f l i hi hl 0)
/-! ### after -/
def afterI (o : Op) (d : Int) (x : SKind) : Int := if o.f0 = 18 then o.f1 else if o.f0 = 24 then 2 + o.f2 else if o.f0 = 23 ∨ o.f0 = 28 then o.f1 + 1 else d - x.f2 + x.f3
def Small (n : Int) : Prop := -1000000000000 ≤ n ∧ n ≤ 1000000000000
theorem after_f (o : Op) (d : Int) (x : SKind) (h1 : Small o.f1) (h2 : Small o.f2) (h3 : Small d) (h4 : Small x.f2) (h5 : Small x.f3) : ocode_after.f o.f0 o.f1 o.f2 d x.f0 x.f1 x.f2 x.f3 = some (afterI o d x) := by
 unfold Small at *
 unfold ocode_after.f afterI
 rw [w64 (2 + o.f2) (by omega), w64 (o.f1 + 1) (by omega), w64 (d - x.f2) (by omega), w64 (d - x.f2 + x.f3) (by omega)]
 by_cases a : o.f0 = 18
 ·rw [if_pos a, if_pos a]
 rw [if_neg a, if_neg a]
 by_cases b : o.f0 = 24
 ·rw [if_pos b, if_pos b]
 rw [if_neg b, if_neg b]
 by_cases c : o.f0 = 23
 ·rw [if_pos c, if_pos (.inl c)]
 rw [if_neg c]
 by_cases e : o.f0 = 28
 ·rw [if_pos e, if_pos (.inr e)]
 rw [if_neg e, if_neg (by simp [c, e])]
theorem after_calls (o : Op) (d : Int) (x : SKind) (w : World) (h1 : Small o.f1) (h2 : Small o.f2) (h3 : Small d) (h4 : Small x.f2) (h5 : Small x.f3) : Calls Try.prog 37 #[opV o, .int .i64 d, kindV x] w fun e w' => e = .returned (.int .i64 (afterI o d x)) ∧ Below w.heap.size w w' :=
 ocode_after.calls _ _ _ _ _ _ _ _ _ w (after_f o d x h1 h2 h3 h4 h5)
/-! ### fits -/
def fitsB (o : Op) (d : Int) (x : SKind) (b : Bool) : Bool :=
 (if o.f0 = 2 ∨ o.f0 = 3 then inB o.f1 2 (d - 1) else if o.f0 = 4 then decide (2 ≤ o.f1) else if o.f0 = 23 then inB o.f1 2 (d - 3) else if o.f0 = 18 then b || decide (o.f1 ≤ d + 2002) else true) && (decide (o.f0 = 24) || decide (d - x.f2 ≥ 2))
theorem fits_f (o : Op) (d : Int) (x : SKind) (b : Bool) (h3 : Small d) (h4 : Small x.f2) : ocode_fits.f 1 o.f0 o.f1 o.f2 d x.f0 x.f1 x.f2 x.f3 b = some (fitsB o d x b) := by
 unfold Small at *
 have hr : (if o.f0 = 24 then some true else some (decide (d - x.f2 ≥ 2))) = some (decide (o.f0 = 24) || decide (d - x.f2 ≥ 2)) := by by_cases e : o.f0 = 24 <;> simp [e]
 unfold ocode_fits.f fitsB
 simp only [ocode_fits.j0]
 rw [w64 (d - 1) (by omega), w64 (d - 3) (by omega), w64 (d - x.f2) (by omega), w64 (d + 2000) (by omega), w64 (d + 2000 + 2) (by omega)]
 simp only [hr, in_f, Option.bind_some]
 by_cases c2 : o.f0 = 2
 ·rw [if_pos c2, if_pos (beq_iff_eq.2 c2), if_pos (show o.f0 = 2 ∨ o.f0 = 3 from .inl c2)]
  cases inB o.f1 2 (d - 1) <;> simp
 by_cases c3 : o.f0 = 3
 ·rw [if_neg c2, if_pos (beq_iff_eq.2 c3), if_pos (show o.f0 = 2 ∨ o.f0 = 3 from .inr c3)]
  cases inB o.f1 2 (d - 1) <;> simp
 rw [if_neg c2, if_neg (show ¬ (o.f0 = 2 ∨ o.f0 = 3) by simp [c2, c3]), if_neg (show ¬ (o.f0 == 3) = true from fun e => c3 (beq_iff_eq.1 e))]
 by_cases c4 : o.f0 = 4
 ·rw [if_pos c4, if_pos c4]
  by_cases e : o.f1 < 2
  ·rw [if_pos e, decide_eq_false (by omega : ¬ 2 ≤ o.f1), Bool.false_and]
  ·rw [if_neg e, decide_eq_true (by omega : 2 ≤ o.f1), Bool.true_and]
 rw [if_neg c4, if_neg c4]
 by_cases c5 : o.f0 = 23
 ·rw [if_pos c5, if_pos c5]
  cases inB o.f1 2 (d - 3) <;> simp
 rw [if_neg c5, if_neg c5]
 by_cases c6 : o.f0 = 18
 ·rw [if_pos c6, if_pos c6]
  cases b with
  | true => rw [if_pos rfl, Bool.true_or, Bool.true_and]
  | false =>
   rw [if_neg (by decide), Bool.false_or]
   by_cases e : o.f1 > d + 2000 + 2
   ·rw [if_pos e, decide_eq_false (by omega : ¬ o.f1 ≤ d + 2002), Bool.false_and]
   ·rw [if_neg e, decide_eq_true (by omega : o.f1 ≤ d + 2002), Bool.true_and]
 rw [if_neg c6, if_neg c6, Bool.true_and]
theorem fits_calls (o : Op) (d : Int) (x : SKind) (b : Bool) (w : World) (h3 : Small d) (h4 : Small x.f2) : Calls Try.prog 67 #[opV o, .int .i64 d, kindV x, .bool b] w fun e w' => e = .returned (.bool (fitsB o d x b)) ∧ Below w.heap.size w w' :=
 ocode_fits.calls 1 _ _ _ _ _ _ _ _ _ _ w (fits_f o d x b h3 h4)
/-! ### leads -/
def leadsL : List Op → Nat → Option Nat
 | [], _ => none
 | o :: l, i => if o.f0 = 19 then leadsL l (i + 1) else some i
theorem leads_f (l : List Op) (hl : l.length ≤ 1000000) : ∀ (n i j : Nat), l.length - i < n → i ≤ l.length → leadsL (l.drop i) i = some j → ocode_leads.l0 n l (i : Int) = some (j : Int)
 | 0, _, _, h, _, _ => absurd h (by omega)
 | n + 1, i, j, h, hi, hj => by
  by_cases e : i < l.length
  ·have hd : l.drop i = opAt l i :: l.drop (i + 1) := by
    rw [List.drop_eq_getElem_cons e]
    congr 1
    simp [opAt, rd_T35, List.getD_eq_getElem?_getD, List.getElem?_eq_getElem e]
   rw [hd, leadsL] at hj
   rw [ocode_leads.l0, if_pos (by omega), if_pos (by omega)]
   change (if (opAt l i).f0 = 19 then _ else _) = _
   by_cases g : (opAt l i).f0 = 19
   ·rw [if_pos g] at hj ⊢
    rw [w64 _ (by omega), show (i : Int) + 1 = ((i + 1 : Nat) : Int) by omega]
    exact leads_f l hl n (i + 1) j (by omega) (by omega) hj
   ·rw [if_neg g] at hj ⊢
    injection hj with hj
    rw [hj]
  ·rw [show i = l.length by omega, List.drop_length, leadsL] at hj
   exact absurd hj (by simp)
theorem leads_calls (l : List Op) (A : Option Addr) (cc : Nat) (i j : Nat) (w : World) (h : Kd.C k35 w A l.length l) (hc : l.length ≤ cc) (hi : i ≤ l.length) (hl : l.length ≤ 1000000) (hj : leadsL (l.drop i) i = some j) : Calls Try.prog 68 #[.slice A l.length cc, .int .i64 (i : Int)] w fun e w' => e = .returned (.int .i64 (j : Int)) ∧ Drawn0 w w' :=
 ocode_leads.calls (l.length + 1) A cc l _ _ w h hc (leads_f l hl _ i j (by omega) hi hj)
end Go.Proofs.Ytkmcanknbdaliaa.Lx
