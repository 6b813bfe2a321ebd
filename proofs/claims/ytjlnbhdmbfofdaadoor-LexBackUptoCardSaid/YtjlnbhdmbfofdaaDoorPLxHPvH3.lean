/- A contract of the library or of a function, by hand. -/
import Derived.Test.YtjlnbhdmbfofdaaDoorPLxHPvH2
import Derived.Lib.AppendIntMem
import Derived.Test.YtjlnbhdmbfofdaaDoorPLxHLxHex
import Derived.Test.YtjlnbhdmbfofdaaDoorPLxHQuote
set_option linter.unusedVariables false
set_option linter.unusedSimpArgs false
set_option maxRecDepth 100000
namespace Go.Pv
open Go.Proofs Go.RowKit
/-- strings.Count of one byte. -/
def Gstrings_Count.f (s c : ByteArray) : Option Int := match c.data.toList with
  | [x] => some ((Lib.countByte s.data.toList x : Nat) : Int)
  | _ => none
def Gstrings_Count.pk : List FK := [.str, .str]
def Gstrings_Count.rk : List FK := [.int .i64]
def Gstrings_Count.g : Tp Gstrings_Count.pk → Option (Tp Gstrings_Count.rk) := fun x => Gstrings_Count.f x.1 x.2
theorem Gstrings_Count.spec : Spec Tryd.prog 51 Gstrings_Count.pk Gstrings_Count.rk Gstrings_Count.g := by
  intro x y hg A w vals hL hv
  obtain ⟨s, c⟩ := x
  unfold Gstrings_Count.g Gstrings_Count.f at hg
  simp only at hg
  split at hg
  rotate_left
  · cases hg
  rename_i b hb
  obtain rfl : _ = y := Option.some.inj hg
  obtain rfl : c = ⟨#[b]⟩ := by
    cases c with
    | mk d =>
      congr 1
      apply Array.toList_inj.1
      simpa using hb
  obtain rfl : vals = [.string s, .string ⟨#[b]⟩] := by
    replace hv : RelVs _ _ _ _ [V.s s, V.s ⟨#[b]⟩] vals := hv
    match vals, hv with
    | [v, u], hv => simp only [RelVs, RelV] at hv; rw [hv.1, hv.2.1]
    | [], hv => simp only [RelVs] at hv
    | [_], hv => simp only [RelVs, and_false] at hv
    | _ :: _ :: _ :: _, hv => simp only [RelVs, and_false] at hv
  refine (Tryd.strings_Count_one s b w).mono fun e w' he => ?_
  obtain ⟨rfl, rfl⟩ := he
  exact back_plain (vs := [_]) (Below.refl _ _) rfl (by
    show RelVs _ _ _ _ [V.i .i64 _] _
    simp only [RelVs, RelV]; exact ⟨trivial, trivial⟩)
/-- strings.LastIndexByte. -/
def Gstrings_LastIndexByte.f (s : ByteArray) (c : Int) : Option Int := bif Nat.blt s.size 4611686018427387904 then some (Lib.lastIndexByte s c) else none
def Gstrings_LastIndexByte.pk : List FK := [.str, .int .u8]
def Gstrings_LastIndexByte.rk : List FK := [.int .i64]
def Gstrings_LastIndexByte.g : Tp Gstrings_LastIndexByte.pk → Option (Tp Gstrings_LastIndexByte.rk) := fun x => Gstrings_LastIndexByte.f x.1 x.2
theorem Gstrings_LastIndexByte.spec : Spec Tryd.prog 52 Gstrings_LastIndexByte.pk Gstrings_LastIndexByte.rk Gstrings_LastIndexByte.g := by
  intro x y hg A w vals hL hv
  obtain ⟨s, c⟩ := x
  unfold Gstrings_LastIndexByte.g Gstrings_LastIndexByte.f at hg
  simp only at hg
  cases hb : Nat.blt s.size 4611686018427387904 with
  | false => rw [hb] at hg; cases hg
  | true =>
    rw [hb] at hg
    obtain rfl : _ = y := Option.some.inj hg
    obtain rfl : vals = [.string s, .int .u8 c] := by
      replace hv : RelVs _ _ _ _ [V.s s, V.i .u8 c] vals := hv
      match vals, hv with
      | [v, u], hv => simp only [RelVs, RelV] at hv; rw [hv.1, hv.2.1]
      | [], hv => simp only [RelVs] at hv
      | [_], hv => simp only [RelVs, and_false] at hv
      | _ :: _ :: _ :: _, hv => simp only [RelVs, and_false] at hv
    refine (Tryd.strings_LastIndexByte s c (blt_lt hb) w).mono fun e w' he => ?_
    obtain ⟨rfl, rfl⟩ := he
    exact back_plain (vs := [_]) (Below.refl _ _) rfl (by
      show RelVs _ _ _ _ [V.i .i64 _] _
      simp only [RelVs, RelV]; exact ⟨trivial, trivial⟩)
/-- strconv.Itoa. -/
def Gstrconv_Itoa.f (n : Int) : Option ByteArray := bif decide (-9223372036854775808 ≤ n) && decide (n ≤ 9223372036854775807) then some ⟨(Lib.itoa n).toArray⟩ else none
def Gstrconv_Itoa.pk : List FK := [.int .i64]
def Gstrconv_Itoa.rk : List FK := [.str]
def Gstrconv_Itoa.g : Tp Gstrconv_Itoa.pk → Option (Tp Gstrconv_Itoa.rk) := fun x => Gstrconv_Itoa.f x
theorem int_vals {P : Program} {G : Gh} {ob : Nat → O} {w : World} {k : IntKind} {n : Int} {vals : List Value} (h : RelVs P G ob w [.i k n] vals) : vals = [.int k n] := by
  match vals, h with
  | [v], h => simp only [RelVs, RelV] at h; rw [h.1]
  | [], h => simp only [RelVs] at h
  | _ :: _ :: _, h => simp only [RelVs, and_false] at h
theorem itoa_f {n : Int} {y : ByteArray} (h : Gstrconv_Itoa.f n = some y) : -9223372036854775808 ≤ n ∧ n ≤ 9223372036854775807 ∧ y = ⟨(Lib.itoa n).toArray⟩ := by
  unfold Gstrconv_Itoa.f at h
  cases hb : (decide (-9223372036854775808 ≤ n) && decide (n ≤ 9223372036854775807)) with
  | false => rw [hb] at h; cases h
  | true =>
    rw [hb] at h
    simp only [Bool.and_eq_true, decide_eq_true_eq] at hb
    exact ⟨hb.1, hb.2, (Option.some.inj h).symm⟩
theorem Gstrconv_Itoa.spec : Spec Tryd.prog 49 Gstrconv_Itoa.pk Gstrconv_Itoa.rk Gstrconv_Itoa.g := by
  intro n y hg A w vals hL hv
  obtain rfl := int_vals hv
  obtain ⟨h0, h1, rfl⟩ := itoa_f (show Gstrconv_Itoa.f n = some y from hg)
  refine (Tryd.strconv_Itoa n h0 h1 w hL.2.2.1).mono fun e w' he => ?_
  obtain ⟨rfl, k, os, rfl⟩ := he
  exact back_plain (vs := [_]) (Lib.below_grow _ w (Nat.le_refl _) k os) rfl (by
    show RelVs _ _ _ _ [V.s _] _
    simp only [RelVs, RelV]; exact ⟨trivial, trivial⟩)
/-- strconv.FormatInt of the base 16. -/
def Gstrconv_FormatInt.f (n b : Int) : Option ByteArray := bif (b == 16) && (decide (0 ≤ n) && decide (n < 4294967296)) then some ⟨(Go.Proofs.Lx.hexF 20 n.toNat).toArray⟩ else none
def Gstrconv_FormatInt.pk : List FK := [.int .i64, .int .i64]
def Gstrconv_FormatInt.rk : List FK := [.str]
def Gstrconv_FormatInt.g : Tp Gstrconv_FormatInt.pk → Option (Tp Gstrconv_FormatInt.rk) := fun x => Gstrconv_FormatInt.f x.1 x.2
theorem hex_spec (u : Nat) (hu : u < 4294967296) (w : World) (hL : LaidC.L Tryd.prog w) (A : Nat → Prop) :
    Calls Tryd.prog 48 (List.toArray [Value.int .i64 (u : Int), Value.int .i64 16]) w (Back Tryd.prog A w Gstrconv_FormatInt.rk (⟨(Go.Proofs.Lx.hexF 20 u).toArray⟩ : ByteArray)) := by
  refine (Go.Proofs.Lx.hex48 u hu w hL.2.2.2).mono fun e w' he => ?_
  obtain ⟨rfl, hbel⟩ := he
  exact back_plain (vs := [_]) hbel rfl (by
    show RelVs _ _ _ _ [V.s _] _
    simp only [RelVs, RelV]; exact ⟨trivial, trivial⟩)
theorem fmt16_f {n b : Int} {y : ByteArray} (h : Gstrconv_FormatInt.f n b = some y) : ∃ u : Nat, n = (u : Int) ∧ b = 16 ∧ u < 4294967296 ∧ y = ⟨(Go.Proofs.Lx.hexF 20 u).toArray⟩ := by
  unfold Gstrconv_FormatInt.f at h
  cases hb : ((b == 16) && (decide (0 ≤ n) && decide (n < 4294967296))) with
  | false => rw [hb] at h; cases h
  | true =>
    rw [hb] at h
    simp only [Bool.and_eq_true, decide_eq_true_eq, beq_iff_eq] at hb
    exact ⟨n.toNat, by omega, hb.1, by omega, (Option.some.inj h).symm⟩
theorem Gstrconv_FormatInt.spec : Spec Tryd.prog 48 Gstrconv_FormatInt.pk Gstrconv_FormatInt.rk Gstrconv_FormatInt.g := by
  intro x y hg A w vals hL hv
  obtain ⟨n, b⟩ := x
  obtain ⟨u, rfl, rfl, hu, rfl⟩ := fmt16_f (show Gstrconv_FormatInt.f n b = some y from hg)
  obtain rfl : vals = [.int .i64 (u : Int), .int .i64 16] := by
    replace hv : RelVs _ _ _ _ [V.i .i64 (u : Int), V.i .i64 16] vals := hv
    match vals, hv with
    | [v, u], hv => simp only [RelVs, RelV] at hv; rw [hv.1, hv.2.1]
    | [], hv => simp only [RelVs] at hv
    | [_], hv => simp only [RelVs, and_false] at hv
    | _ :: _ :: _ :: _, hv => simp only [RelVs, and_false] at hv
  exact hex_spec u hu w hL A
/-- lex.Quote. -/
def Glex_Quote.f (s : ByteArray) : Option (ByteArray × Int) := bif Nat.ble s.size 1000000000 then some (Go.Proofs.YtjlnbhdmbfofdaaDoor.Lx.quoteR s) else none
def Glex_Quote.pk : List FK := [.str]
def Glex_Quote.rk : List FK := [.str, .int .i64]
def Glex_Quote.g : Tp Glex_Quote.pk → Option (Tp Glex_Quote.rk) := fun x => Glex_Quote.f x
theorem Glex_Quote.spec : Spec Tryd.prog 26 Glex_Quote.pk Glex_Quote.rk Glex_Quote.g := by
  intro s y hg A w vals hL hv
  obtain rfl := str_vals hv
  unfold Glex_Quote.g Glex_Quote.f at hg
  cases hb : Nat.ble s.size 1000000000 with
  | false => rw [hb] at hg; cases hg
  | true =>
    rw [hb] at hg
    obtain rfl : _ = y := Option.some.inj hg
    refine (Go.Proofs.YtjlnbhdmbfofdaaDoor.Lx.Quote_calls s (Nat.le_of_ble_eq_true hb) w).mono fun e w' he => ?_
    obtain ⟨rfl, hbel⟩ := he
    exact back_plain (vs := [.string _, .int .i64 _]) hbel rfl (by
      show RelVs _ _ _ _ [V.s _, V.i .i64 _] _
      simp only [RelVs, RelV]; exact ⟨trivial, trivial, trivial⟩)
/-- strings.Join. -/
def joinB (xs : List D) (sep : ByteArray) : List UInt8 := Lib.join (xs.map fun x => x.str.data.toList) sep.data.toList
def Gstrings_Join.f (xs : List D) (sep : ByteArray) : Option ByteArray := bif Nat.ble xs.length 1000000000 && Nat.ble (joinB xs sep).length 140737488355328 then some ⟨(joinB xs sep).toArray⟩ else none
def Gstrings_Join.pk : List FK := [.sl 9, .str]
def Gstrings_Join.rk : List FK := [.str]
def Gstrings_Join.g : Tp Gstrings_Join.pk → Option (Tp Gstrings_Join.rk) := fun x => Gstrings_Join.f x.1 x.2
theorem rd_at : ∀ (l : List D) (i : Nat) (h : i < l.length), rd l i = l[i]
  | x :: r, 0, _ => rfl
  | x :: r, i + 1, h => rd_at r i (by simpa using h)
theorem Gstrings_Join.spec : Spec Tryd.prog 54 Gstrings_Join.pk Gstrings_Join.rk Gstrings_Join.g := by
  intro x y hg A w vals hL hv
  obtain ⟨xs, sep⟩ := x
  unfold Gstrings_Join.g Gstrings_Join.f at hg
  simp only at hg
  cases hb : (Nat.ble xs.length 1000000000 && Nat.ble (joinB xs sep).length 140737488355328) with
  | false => rw [hb] at hg; cases hg
  | true =>
    rw [hb] at hg
    obtain rfl : _ = y := Option.some.inj hg
    simp only [Bool.and_eq_true] at hb
    have h1 := Nat.le_of_ble_eq_true hb.1
    have h2 := Nat.le_of_ble_eq_true hb.2
    replace hv : RelVs _ _ _ _ [V.sl 9 xs, V.s sep] vals := hv
    obtain ⟨v, rfl, hr⟩ : ∃ v, vals = [v, .string sep] ∧ RelV Tryd.prog ⟨A, w.heap.size, fun _ => undef⟩ (mkOb (obR Tryd.prog 0 Gstrings_Join.pk (xs, sep))) w (V.sl 9 xs) v := by
      match vals, hv with
      | [v, u], hv =>
        simp only [RelVs] at hv
        have h2 := hv.2.1
        simp only [RelV] at h2
        exact ⟨v, by rw [h2], hv.1⟩
      | [], hv => simp only [RelVs] at hv
      | [_], hv => simp only [RelVs, and_false] at hv
      | _ :: _ :: _ :: _, hv => simp only [RelVs, and_false] at hv
    simp only [RelV] at hr
    have fin : ∀ w', Below w.heap.size w w' → Back Tryd.prog A w Gstrings_Join.rk (⟨(joinB xs sep).toArray⟩ : ByteArray) (.returned (.string ⟨(joinB xs sep).toArray⟩)) w' := fun w' hbel => back_plain (vs := [_]) hbel rfl (by
      show RelVs _ _ _ _ [V.s _] _
      simp only [RelVs, RelV]; exact ⟨trivial, trivial⟩)
    have none : ∀ a c, v = .slice a 0 c → xs = [] → Calls Tryd.prog 54 (List.toArray [v, Value.string sep]) w (Back Tryd.prog A w Gstrings_Join.rk (⟨(joinB xs sep).toArray⟩ : ByteArray)) := by
      rintro a c rfl rfl
      refine (Tryd.strings_Join_none a c sep w).mono fun e w' he => ?_
      obtain ⟨rfl, rfl⟩ := he
      exact fin _ (Below.refl _ _)
    rcases hr.of_sl with ⟨hv, hd⟩ | ⟨a, cap, hv, hd, -⟩ | ⟨b, off, cap, ys, cs, el, fz, hv, hd, hok, hheap, hT, hc, hE⟩
    · exact none _ _ hv (by cases hd; rfl)
    · exact none _ _ hv (by cases hd; rfl)
    · obtain rfl : xs = ys := by cases hd; rfl
      subst hv
      have c1 : csz Tryd.prog 9 = 1 := by kernel_rfl
      have c2 : isA Tryd.prog 9 = false := by kernel_rfl
      have c3 : cks Tryd.prog 9 = [.str] := by kernel_rfl
      have hlen : (xs.map D.str).length = xs.length := by simp
      have hmap : ((xs.map D.str).map fun x => x.data.toList) = xs.map fun x => x.str.data.toList := by simp
      have hj := Tryd.strings_Join b off cap (xs.map D.str) sep w (fun j x hx => by
        have hlt : j < xs.length := by
          have := (List.getElem?_eq_some_iff.1 hx).1
          simpa using this
        obtain ⟨u, hu, hr⟩ := (hE j hlt).2 0 (by rw [c1]; omega)
        rw [c1, c2, c3] at *
        have hk : kget [K.str] 0 = .str := rfl
        rw [hk] at hr
        have hx2 : x = (rd xs j).str := by
          rw [rd_at xs j hlt]
          have := (List.getElem?_eq_some_iff.1 hx).2
          simpa using this.symm
        have hu' : u = .string x := by
          rw [hx2]
          change RepC _ _ _ _ u (rd xs j) at hr
          generalize rd xs j = d at hr
          cases hr; rfl
        rw [Lib.cell_of_heap hheap]
        simp only [Nat.mul_one, Nat.add_zero] at hu
        rw [hu, hu']) (hok.2.1) (by rw [hlen]; omega) (by rw [hlen]; exact hc) (by rw [hmap]; exact h2)
      rw [hlen, hmap] at hj
      refine hj.mono fun e w' he => ?_
      obtain ⟨rfl, hbel⟩ := he
      exact fin _ hbel
end Go.Pv
