/- A contract of the library or of a function, by hand. -/
import Derived.Test.YtajlhhejblpfcaaDoorPPpC
import Derived.Test.YtajlhhejblpfcaaDoorPPpHShelfA
import Derived.Test.YtajlhhejblpfcaaDoorPPpHHex
import Derived.Shelf.Strings.SplitCore
import Derived.Lib.AppendIntMem
import Derived.Lib.IndexBytes
import Derived.Lib.SplitLaws
set_option linter.unusedVariables false
set_option linter.unusedSimpArgs false
set_option maxRecDepth 100000
namespace Go.Pv
open Go.Proofs Go.RowKit

theorem papPowAt : Tryd.prog.globalNamed "internal/strconv.uint64pow10" = some 1 := by kernel_rfl
/-- The tables of powers and of de Bruijn's numbers are as they were laid. -/
def papLaid (w : World) : Prop := Lib.TabIs Tryd.prog w "internal/strconv.uint64pow10" .u64 Lib.pow10Tab ∧ w.cell? ⟨6, 15, none⟩ = some (.int .u8 4)
theorem tab_size {w : World} {nm : String} {g : Nat} {k : IntKind} {zs : List Int} (hg : Tryd.prog.globalNamed nm = some g) (h : Lib.TabIs Tryd.prog w nm k zs) : g < w.heap.size := by
  unfold Lib.TabIs World.var? at h
  rw [hg] at h
  simp only [Option.bind_some] at h
  cases hq : w.heap[g]? with
  | none => rw [hq] at h; simp at h
  | some o => exact (Array.getElem?_eq_some_iff.1 hq).1
theorem tab_same {w w' : World} {nm : String} {g : Nat} {k : IntKind} {zs : List Int} (hg : Tryd.prog.globalNamed nm = some g) (h : Lib.TabIs Tryd.prog w nm k zs) (hs : w'.heap[g]? = w.heap[g]?) : Lib.TabIs Tryd.prog w' nm k zs := by
  unfold Lib.TabIs World.var? at h ⊢
  rw [hg] at h ⊢
  simp only [Option.bind_some] at h ⊢
  rw [hs]; exact h
instance : LaidC Tryd.prog where
  L := papLaid
  gs := [1, 6]
  size := by
    intro w h k hk
    obtain ⟨h3, h4⟩ := h
    simp only [List.mem_cons, List.not_mem_nil, or_false] at hk
    rcases hk with rfl | rfl
    · exact tab_size papPowAt h3
    · exact World.block_lt_of_cell? w _ h4
  stable := by
    intro w w' h hs
    obtain ⟨h3, h4⟩ := h
    refine ⟨tab_same papPowAt h3 (hs 1 (by simp)), ?_⟩
    rw [World.cell?_of_block (w := w) (w' := w') (a := ⟨6, 15, none⟩) (hs 6 (by simp))]; exact h4

/-! ### Values -/
theorem vals1 {P : Program} {G : Gh} {ob : Nat → O} {w : World} {x : V} {vals : List Value} (h : RelVs P G ob w [x] vals) : ∃ a, vals = [a] ∧ RelV P G ob w x a := by
  match vals, h with
  | [v], h => simp only [RelVs] at h; exact ⟨v, rfl, h.1⟩
  | [], h => simp only [RelVs] at h
  | _ :: _ :: _, h => simp only [RelVs, and_false] at h
theorem vals2 {P : Program} {G : Gh} {ob : Nat → O} {w : World} {x y : V} {vals : List Value} (h : RelVs P G ob w [x, y] vals) : ∃ a b, vals = [a, b] ∧ RelV P G ob w x a ∧ RelV P G ob w y b := by
  match vals, h with
  | v :: vs, h =>
    simp only [RelVs] at h
    obtain ⟨b, rfl, h2⟩ := vals1 h.2
    exact ⟨v, b, rfl, h.1, h2⟩
  | [], h => simp only [RelVs] at h
theorem vals4 {P : Program} {G : Gh} {ob : Nat → O} {w : World} {x y q u : V} {vals : List Value} (h : RelVs P G ob w [x, y, q, u] vals) : ∃ a b c d, vals = [a, b, c, d] ∧ RelV P G ob w x a ∧ RelV P G ob w y b ∧ RelV P G ob w q c ∧ RelV P G ob w u d := by
  match vals, h with
  | v :: v' :: vs, h =>
    simp only [RelVs] at h
    obtain ⟨b, c, rfl, h2, h3⟩ := vals2 h.2.2
    exact ⟨v, v', b, c, rfl, h.1, h.2.1, h2, h3⟩
  | [], h => simp only [RelVs] at h
  | [_], h => simp only [RelVs, and_false] at h
/-- What a contract of plain results needs. -/
theorem back_plain {P : Program} {A : Nat → Prop} {w w' : World} {ks : List FK} {y : Tp ks} {vs : List Value} (hb : Below w.heap.size w w') (ho : obR P 1 ks y = [])
    (hr : RelVs P ⟨fun b => A b ∨ w.heap.size ≤ b, w'.heap.size, fun _ => undef⟩ (fun _ => .none) w' (envR P 1 ks y) vs) : Back P A w ks y (.returned (retVal vs)) w' := by
  refine ⟨vs, fun _ => undef, rfl, hb, ?_, fun n => ?_, fun n m b h => ?_, fun n b h => ?_⟩
  · rw [ho]; exact hr
  · rw [ho]; simp only [mkOb, RelO]
  · simp [undef, blk] at h
  · simp [undef, blk] at h
theorem back_str {P : Program} {A : Nat → Prop} {w w' : World} (hb : Below w.heap.size w w') (s : ByteArray) : Back P A w [.str] s (.returned (.string s)) w' :=
  back_plain (ks := [.str]) (y := s) (vs := [_]) hb rfl (by
    show RelVs _ _ _ _ [V.s s] _
    simp only [RelVs, RelV]; exact ⟨trivial, trivial⟩)
theorem back_bool {P : Program} {A : Nat → Prop} {w w' : World} (hb : Below w.heap.size w w') (x : Bool) : Back P A w [.bool] x (.returned (.bool x)) w' :=
  back_plain (ks := [.bool]) (y := x) (vs := [_]) hb rfl (by
    show RelVs _ _ _ _ [V.b x] _
    simp only [RelVs, RelV]; exact ⟨trivial, trivial⟩)
theorem rd_at : ∀ (l : List D) (i : Nat) (h : i < l.length), rd l i = l[i]
  | x :: r, 0, _ => rfl
  | x :: r, i + 1, h => rd_at r i (by simpa using h)
theorem strC1 : csz Tryd.prog 9 = 1 := by kernel_rfl
theorem strC2 : isA Tryd.prog 9 = false := by kernel_rfl
theorem strC3 : cks Tryd.prog 9 = [.str] := by kernel_rfl
theorem strC4 : okT Tryd.prog 9 = true := by kernel_rfl
theorem str_elems {w : World} {ok : Nat → Prop} (xs : List ByteArray) : Elems Tryd.prog w ok 9 (fun k => (xs.map Value.string)[k]?) (xs.map D.s) := fun i hi => by
  have hi' : i < xs.length := by simpa using hi
  refine ⟨(fun h => by rw [strC2] at h; cases h), fun j hj => ?_⟩
  rw [strC1] at hj ⊢
  obtain rfl : j = 0 := by omega
  refine ⟨.string xs[i], by simp [hi'], ?_⟩
  rw [strC2, strC3, rd_at _ i hi]
  simp only [D.ecell, List.getElem_map]
  exact .str _
/-- A result that is a slice of texts, of the call's own. -/
theorem back_strs {A : Nat → Prop} {w w' : World} {v : Value} {xs : List ByteArray} (hb : Below w.heap.size w w') (ho : w'.ownsT true w.heap.size 9 1 v xs.length (xs.map Value.string)) :
    Back Tryd.prog A w [.own 9] (xs.map D.s) (.returned v) w' := by
  let η : Nat → Value := fun n => if n = 1 then v else undef
  have hη : η 1 = v := if_pos rfl
  have hηn : ∀ n, n ≠ 1 → η n = undef := fun n h => if_neg h
  have hO : mkOb (obR Tryd.prog 1 [.own 9] (xs.map D.s)) 1 = .row 9 (xs.map D.s) 1 := rfl
  have hOn : ∀ n, n ≠ 1 → mkOb (obR Tryd.prog 1 [.own 9] (xs.map D.s)) n = .none := fun n h => by
    simp only [obR, mkKO, mkOb, beq_false h, cond_false]
  have hone : v.oneCell' = true := by rcases ho.2 with ⟨h, _⟩ | ⟨_, _, _, _, h, _⟩ <;> rw [h] <;> rfl
  have hbk : ∀ b, blk v = some b → w.heap.size ≤ b ∧ b < w'.heap.size := fun b h => by
    rcases ho.2 with ⟨hv, _⟩ | ⟨g, cap, cur, fz, hv, hg, hh, _⟩
    · rw [hv] at h; cases h
    · rw [hv] at h
      obtain rfl : g = b := by simpa [blk] using h
      exact ⟨hg, (Array.getElem?_eq_some_iff.1 hh).1⟩
  refine ⟨[v], η, rfl, hb, ?_, ?_, fun n m b h1 h2 => ?_, fun n b h => ?_⟩
  · show RelVs _ _ _ _ [V.own 1 1] _
    simp only [RelVs, RelV]
    rw [hO]
    exact ⟨⟨hone, Nat.le_refl _, fun _ => hη.symm⟩, trivial⟩
  · intro n
    by_cases hn : n = 1
    · subst hn
      show RelO _ _ _ _ 1 (mkOb (obR Tryd.prog 1 [.own 9] (xs.map D.s)) 1)
      rw [hO]
      refine ⟨strC4, _, ?_, str_elems xs⟩
      show World.ownsT _ (od 1) _ _ _ (η 1) _ _
      rw [hη, strC1, List.length_map]
      refine ⟨ho.1, ?_⟩
      rcases ho.2 with h | ⟨g, cap, cur, fz, h1, h2, r⟩
      · exact .inl h
      · exact .inr ⟨g, cap, cur, fz, h1, Nat.zero_le _, r⟩
    · rw [hOn n hn]
      simp only [RelO]
  · have e1 : n = 1 := Classical.byContradiction fun h => by rw [hηn n h] at h1; simp [undef, blk] at h1
    have e2 : m = 1 := Classical.byContradiction fun h => by rw [hηn m h] at h2; simp [undef, blk] at h2
    rw [e1, e2]
  · have e1 : n = 1 := Classical.byContradiction fun h' => by rw [hηn n h'] at h; simp [undef, blk] at h
    rw [e1, hη] at h
    exact hbk b h

/-! ### Numerals -/
/-- strconv.Itoa. -/
def Gstrconv_Itoa.f (n : Int) : Option ByteArray := bif decide (-9223372036854775808 ≤ n) && decide (n ≤ 9223372036854775807) then some ⟨(Lib.itoa n).toArray⟩ else none
def Gstrconv_Itoa.pk : List FK := [.int .i64]
def Gstrconv_Itoa.rk : List FK := [.str]
def Gstrconv_Itoa.g : Tp Gstrconv_Itoa.pk → Option (Tp Gstrconv_Itoa.rk) := fun x => Gstrconv_Itoa.f x
theorem cond_some {α : Type} {b : Bool} {x : Option α} {y : α} (h : (bif b then x else none) = some y) : b = true ∧ x = some y := by
  cases b with
  | false => cases h
  | true => exact ⟨rfl, h⟩
theorem Gstrconv_Itoa.spec : Spec Tryd.prog 27 Gstrconv_Itoa.pk Gstrconv_Itoa.rk Gstrconv_Itoa.g := by
  intro n y hg A w vals hL hv
  obtain ⟨a, rfl, ha⟩ := vals1 hv
  simp only [mkK, RelV] at ha
  subst ha
  obtain ⟨hb, hy⟩ := cond_some (show Gstrconv_Itoa.f n = some y from hg)
  simp only [Bool.and_eq_true, decide_eq_true_eq] at hb
  obtain rfl := Option.some.inj hy
  refine (Tryd.strconv_Itoa n hb.1 hb.2 w hL.1).mono fun e w' he => ?_
  obtain ⟨rfl, k, os, rfl⟩ := he
  exact back_str (Lib.below_grow _ w (Nat.le_refl _) k os) _
/-- strconv.FormatInt of the base 16. -/
def Gstrconv_FormatInt.f (n b : Int) : Option ByteArray := bif (b == 16) && (decide (0 ≤ n) && decide (n < 4294967296)) then some ⟨(Go.Proofs.Lx.hexF 20 n.toNat).toArray⟩ else none
def Gstrconv_FormatInt.pk : List FK := [.int .i64, .int .i64]
def Gstrconv_FormatInt.rk : List FK := [.str]
def Gstrconv_FormatInt.g : Tp Gstrconv_FormatInt.pk → Option (Tp Gstrconv_FormatInt.rk) := fun x => Gstrconv_FormatInt.f x.1 x.2
theorem Gstrconv_FormatInt.spec : Spec Tryd.prog 61 Gstrconv_FormatInt.pk Gstrconv_FormatInt.rk Gstrconv_FormatInt.g := by
  intro x y hg A w vals hL hv
  obtain ⟨n, b⟩ := x
  obtain ⟨p, q, rfl, hp, hq⟩ := vals2 hv
  simp only [mkK, RelV] at hp hq
  subst hp; subst hq
  obtain ⟨hb, hy⟩ := cond_some (show Gstrconv_FormatInt.f n b = some y from hg)
  simp only [Bool.and_eq_true, decide_eq_true_eq, beq_iff_eq] at hb
  obtain rfl := Option.some.inj hy
  have hn : (0 : Int) ≤ n := hb.2.1
  obtain ⟨u, rfl⟩ := Int.eq_ofNat_of_zero_le hn
  obtain rfl := hb.1
  refine (Go.Proofs.Lx.hexFmt u (by omega) w hL.2).mono fun e w' he => ?_
  obtain ⟨rfl, hbel⟩ := he
  rw [Int.toNat_natCast]
  exact back_str hbel _

/-! ### Texts -/
/-- strings.Join. -/
def joinB (xs : List D) (sep : ByteArray) : List UInt8 := Lib.join (xs.map fun x => x.str.data.toList) sep.data.toList
def Gstrings_Join.f (xs : List D) (sep : ByteArray) : Option ByteArray := bif Nat.ble xs.length 1000000000 && Nat.ble (joinB xs sep).length 140737488355328 then some ⟨(joinB xs sep).toArray⟩ else none
def Gstrings_Join.pk : List FK := [.sl 9, .str]
def Gstrings_Join.rk : List FK := [.str]
def Gstrings_Join.g : Tp Gstrings_Join.pk → Option (Tp Gstrings_Join.rk) := fun x => Gstrings_Join.f x.1 x.2
theorem Gstrings_Join.spec : Spec Tryd.prog 40 Gstrings_Join.pk Gstrings_Join.rk Gstrings_Join.g := by
  intro x y hg A w vals hL hv
  obtain ⟨xs, sep⟩ := x
  obtain ⟨v, q, rfl, hr, hq⟩ := vals2 hv
  simp only [mkK, RelV] at hr hq
  subst hq
  obtain ⟨hb, hy⟩ := cond_some (show Gstrings_Join.f xs sep = some y from hg)
  obtain rfl := Option.some.inj hy
  simp only [Bool.and_eq_true] at hb
  have h1 := Nat.le_of_ble_eq_true hb.1
  have h2 := Nat.le_of_ble_eq_true hb.2
  have none : ∀ a c, v = .slice a 0 c → xs = [] → Calls Tryd.prog 40 (List.toArray [v, Value.string sep]) w (Back Tryd.prog A w Gstrings_Join.rk (⟨(joinB xs sep).toArray⟩ : ByteArray)) := by
    rintro a c rfl rfl
    refine (Tryd.strings_Join_none a c sep w).mono fun e w' he => ?_
    obtain ⟨rfl, rfl⟩ := he
    exact back_str (Below.refl _ _) _
  rcases hr.of_sl with ⟨hv, hd⟩ | ⟨a, cap, hv, hd, -⟩ | ⟨b, off, cap, ys, cs, el, fz, hv, hd, hok, hheap, hT, hc, hE⟩
  · exact none _ _ hv (by cases hd; rfl)
  · exact none _ _ hv (by cases hd; rfl)
  · obtain rfl : xs = ys := by cases hd; rfl
    subst hv
    have hlen : (xs.map D.str).length = xs.length := by simp
    have hmap : ((xs.map D.str).map fun x => x.data.toList) = xs.map fun x => x.str.data.toList := by simp
    have hj := Tryd.strings_Join b off cap (xs.map D.str) sep w (fun j x hx => by
      have hlt : j < xs.length := by
        have := (List.getElem?_eq_some_iff.1 hx).1
        simpa using this
      obtain ⟨u, hu, hr⟩ := (hE j hlt).2 0 (by rw [strC1]; omega)
      rw [strC1, strC2, strC3] at *
      have hk : kget [K.str] 0 = .str := rfl
      rw [hk] at hr
      have hx2 : x = (rd xs j).str := by
        rw [rd_at xs j hlt]
        have := (List.getElem?_eq_some_iff.1 hx).2
        simpa using this.symm
      have hu' : u = .string x := by
        rw [hx2]
        change RepC _ _ _ _ u (rd xs j) at hr
        generalize rd xs j = d at hr
        cases hr; rfl
      rw [Lib.cell_of_heap hheap]
      simp only [Nat.mul_one, Nat.add_zero] at hu
      rw [hu, hu']) (hok.2.1) (by rw [hlen]; omega) (by rw [hlen]; exact hc) (by rw [hmap]; exact h2)
    rw [hlen, hmap] at hj
    refine hj.mono fun e w' he => ?_
    obtain ⟨rfl, hbel⟩ := he
    exact back_str hbel _
/-- strings.Repeat. -/
def Gstrings_Repeat.f (s : ByteArray) (n : Int) : Option ByteArray := bif decide (0 ≤ n) && (decide (n ≤ 9223372036854775807) && Nat.ble (s.size * n.toNat) 140737488355328) then some ⟨(Lib.repeatL s.data.toList n.toNat).toArray⟩ else none
def Gstrings_Repeat.pk : List FK := [.str, .int .i64]
def Gstrings_Repeat.rk : List FK := [.str]
def Gstrings_Repeat.g : Tp Gstrings_Repeat.pk → Option (Tp Gstrings_Repeat.rk) := fun x => Gstrings_Repeat.f x.1 x.2
theorem Gstrings_Repeat.spec : Spec Tryd.prog 46 Gstrings_Repeat.pk Gstrings_Repeat.rk Gstrings_Repeat.g := by
  intro x y hg A w vals hL hv
  obtain ⟨s, n⟩ := x
  obtain ⟨p, q, rfl, hp, hq⟩ := vals2 hv
  simp only [mkK, RelV] at hp hq
  subst hp; subst hq
  obtain ⟨hb, hy⟩ := cond_some (show Gstrings_Repeat.f s n = some y from hg)
  simp only [Bool.and_eq_true, decide_eq_true_eq] at hb
  obtain rfl := Option.some.inj hy
  have hn : (0 : Int) ≤ n := hb.1
  obtain ⟨u, rfl⟩ := Int.eq_ofNat_of_zero_le hn
  have h3 := Nat.le_of_ble_eq_true hb.2.2
  rw [Int.toNat_natCast] at h3 ⊢
  refine (Tryd.strings_Repeat s u w (by omega) h3).mono fun e w' he => ?_
  obtain ⟨rfl, hbel⟩ := he
  exact back_str hbel _
/-- strings.Contains of one byte. -/
def Gstrings_Contains.f (s c : ByteArray) : Option Bool := match c.data.toList with
  | [x] => some (decide (0 ≤ Lib.indexByte s.data.toList x))
  | _ => none
def Gstrings_Contains.pk : List FK := [.str, .str]
def Gstrings_Contains.rk : List FK := [.bool]
def Gstrings_Contains.g : Tp Gstrings_Contains.pk → Option (Tp Gstrings_Contains.rk) := fun x => Gstrings_Contains.f x.1 x.2
theorem one_byte {c : ByteArray} {b : UInt8} (hb : c.data.toList = [b]) : c = ⟨#[b]⟩ := by
  cases c with
  | mk d =>
    congr 1
    apply Array.toList_inj.1
    simpa using hb
theorem Gstrings_Contains.spec : Spec Tryd.prog 64 Gstrings_Contains.pk Gstrings_Contains.rk Gstrings_Contains.g := by
  intro x y hg A w vals hL hv
  obtain ⟨s, c⟩ := x
  obtain ⟨p, q, rfl, hp, hq⟩ := vals2 hv
  simp only [mkK, RelV] at hp hq
  subst hp; subst hq
  unfold Gstrings_Contains.g Gstrings_Contains.f at hg
  simp only at hg
  split at hg
  rotate_left
  · cases hg
  rename_i b hb
  obtain rfl : _ = y := Option.some.inj hg
  obtain rfl := one_byte hb
  refine (Tryd.strings_Contains_one s b w).mono fun e w' he => ?_
  obtain ⟨rfl, rfl⟩ := he
  exact back_bool (Below.refl _ _) _
/-- What is no word's byte. -/
def offB (c : Nat) : Bool := decide (c < 33) || decide (126 < c)
theorem isName1 (W : World) (x : Nat) (hx : x ≤ 1114111) : Calls Tryd.prog 57 #[.int .i32 x] W fun e w' => e = .returned (.bool (offB x)) ∧ Below W.heap.size W w' := by
  have hD : offB x = (decide ((x : Int) < 33) || decide (126 < (x : Int))) := by
    unfold offB
    congr 1 <;> exact decide_eq_decide.2 (by omega)
  go_enter Tryd.func57, Tryd.ntmps57
  go_wp2
  all_goals go_ret
  all_goals first | exact ⟨rfl, Below.refl _ _⟩ | exact ⟨by rw [hD]; simp [*], Below.refl _ _⟩ | exact ⟨by simp [*], Below.refl _ _⟩
theorem words1 (W : World) (x : Nat) (hx : x ≤ 1114111) : Calls Tryd.prog 50 #[.int .i32 x] W fun e w' => e = .returned (.bool (offB x)) ∧ Below W.heap.size W w' := by
  have hD : offB x = (decide ((x : Int) < 33) || decide (126 < (x : Int))) := by
    unfold offB
    congr 1 <;> exact decide_eq_decide.2 (by omega)
  go_enter Tryd.func50, Tryd.ntmps50
  go_wp2
  all_goals go_ret
  all_goals first | exact ⟨rfl, Below.refl _ _⟩ | exact ⟨by rw [hD]; simp [*], Below.refl _ _⟩ | exact ⟨by simp [*], Below.refl _ _⟩
/-- strings.ContainsFunc with the test of names. -/
def Gstrings_ContainsFunc.f (s : ByteArray) : Option Bool := some (decide (0 ≤ Lib.idxFunc offB true s))
def Gstrings_ContainsFunc.pk : List FK := [.str, .fn 57]
def Gstrings_ContainsFunc.rk : List FK := [.bool]
def Gstrings_ContainsFunc.g : Tp Gstrings_ContainsFunc.pk → Option (Tp Gstrings_ContainsFunc.rk) := fun x => Gstrings_ContainsFunc.f x.1
theorem Gstrings_ContainsFunc.spec : Spec Tryd.prog 56 Gstrings_ContainsFunc.pk Gstrings_ContainsFunc.rk Gstrings_ContainsFunc.g := by
  intro x y hg A w vals hL hv
  obtain ⟨s, u⟩ := x
  obtain ⟨p, q, rfl, hp, hq⟩ := vals2 hv
  simp only [mkK, RelV] at hp hq
  subst hp
  obtain ⟨cs, rfl, hcs⟩ := hq
  obtain rfl : cs = #[] := by
    cases hl : cs.toList with
    | nil => simpa using hl
    | cons a l => rw [hl] at hcs; simp only [RelVs] at hcs
  obtain rfl : _ = y := Option.some.inj hg
  refine (Tryd.strings_ContainsFunc_grows 57 #[] (hen_of (fn := Tryd.f57) (by kernel_rfl) (by kernel_rfl) (by kernel_rfl)) offB s w (fun W x hx _ => isName1 W x hx)).mono fun e w' he => ?_
  obtain ⟨rfl, hbel⟩ := he
  exact back_bool hbel _
/-- strings.FieldsFunc with the test of words. -/
def Gstrings_FieldsFunc.f (s : ByteArray) : Option (List D) := bif Nat.ble s.size 4294967296 then some ((Lib.goFieldsP offB s).map D.s) else none
def Gstrings_FieldsFunc.pk : List FK := [.str, .fn 50]
def Gstrings_FieldsFunc.rk : List FK := [.own 9]
def Gstrings_FieldsFunc.g : Tp Gstrings_FieldsFunc.pk → Option (Tp Gstrings_FieldsFunc.rk) := fun x => Gstrings_FieldsFunc.f x.1
theorem Gstrings_FieldsFunc.spec : Spec Tryd.prog 48 Gstrings_FieldsFunc.pk Gstrings_FieldsFunc.rk Gstrings_FieldsFunc.g := by
  intro x y hg A w vals hL hv
  obtain ⟨s, u⟩ := x
  obtain ⟨p, q, rfl, hp, hq⟩ := vals2 hv
  simp only [mkK, RelV] at hp hq
  subst hp
  obtain ⟨cs, rfl, hcs⟩ := hq
  obtain rfl : cs = #[] := by
    cases hl : cs.toList with
    | nil => simpa using hl
    | cons a l => rw [hl] at hcs; simp only [RelVs] at hcs
  obtain ⟨hb, hy⟩ := cond_some (show Gstrings_FieldsFunc.f s = some y from hg)
  obtain rfl := Option.some.inj hy
  refine (Tryd.strings_FieldsFunc_grows 50 #[] (hen_of (fn := Tryd.f50) (by kernel_rfl) (by kernel_rfl) (by kernel_rfl)) offB s w (Nat.le_of_ble_eq_true hb) (fun W x hx _ => words1 W x hx)).mono fun e w' he => ?_
  obtain ⟨A', rfl, -, ho, hbel⟩ := he
  exact back_strs hbel (World.ownsT_of ho)
/-- strings.genSplit at one byte, all pieces, each with the byte behind it or not. -/
def Gstrings_genSplit.f (s sep : ByteArray) (sv n : Int) : Option (List D) := match sep.data.toList with
  | [_] => bif Nat.blt s.size 4294967281 && ((n == -1) && ((sv == 0) || (sv == 1))) then some ((Lib.splitB sep sv.toNat (Lib.countB s sep) s).map D.s) else none
  | _ => none
def Gstrings_genSplit.pk : List FK := [.str, .str, .int .i64, .int .i64]
def Gstrings_genSplit.rk : List FK := [.own 9]
def Gstrings_genSplit.g : Tp Gstrings_genSplit.pk → Option (Tp Gstrings_genSplit.rk) := fun x => Gstrings_genSplit.f x.1 x.2.1 x.2.2.1 x.2.2.2
theorem Gstrings_genSplit.spec : Spec Tryd.prog 70 Gstrings_genSplit.pk Gstrings_genSplit.rk Gstrings_genSplit.g := by
  intro x y hg A w vals hL hv
  obtain ⟨s, sep, sv, n⟩ := x
  obtain ⟨p, q, p', q', rfl, hp, hq, hp', hq'⟩ := vals4 hv
  simp only [mkK, RelV] at hp hq hp' hq'
  subst hp; subst hq; subst hp'; subst hq'
  unfold Gstrings_genSplit.g Gstrings_genSplit.f at hg
  simp only at hg
  split at hg
  rotate_left
  · cases hg
  rename_i b hb
  obtain ⟨hc, hy⟩ := cond_some hg
  obtain rfl := Option.some.inj hy
  simp only [Bool.and_eq_true, Bool.or_eq_true, beq_iff_eq] at hc
  obtain ⟨h1, rfl, h3⟩ := hc
  have h1 := blt_lt h1
  obtain rfl := one_byte hb
  obtain ⟨u, rfl, hu⟩ : ∃ u : Nat, sv = (u : Int) ∧ u ≤ 1 := by
    rcases h3 with h | h
    · exact ⟨0, by omega, by omega⟩
    · exact ⟨1, by omega, by omega⟩
  have hI : ∀ (x : ByteArray), Lib.indexB x ⟨#[b]⟩ = Lib.indexByte x.data.toList b := fun x => Lib.index_one _ _
  have hcount : Lib.countB s ⟨#[b]⟩ = Lib.countByte s.data.toList b := Lib.count_one _ _
  have hle : Lib.countByte s.data.toList b ≤ s.size := by
    unfold Lib.countByte
    exact List.count_le_length
  have hg := Any.strings_genSplit_core Tryd.lays221 (by kernel_rfl) s ⟨#[b]⟩ u (-1) (Lib.countB s ⟨#[b]⟩ + 1) w h1 (Nat.le_refl 1) (by show u ≤ 1; exact hu) (fun x c hx => by
    rw [hI]
    exact Tryd.strings_Index_one x b _) (by
    rw [hcount]
    exact Tryd.strings_Count_one s b w) (by decide) (by decide) (by
    rw [if_pos (by decide), hcount]
    omega)
  rw [Nat.add_sub_cancel] at hg
  rw [Int.toNat_natCast]
  have hlen : (Lib.splitB ⟨#[b]⟩ u (Lib.countB s ⟨#[b]⟩) s).length ≤ Lib.countB s ⟨#[b]⟩ + 1 := Lib.splitB_length_le _ _ _ _
  refine hg.mono fun e w' he => ?_
  obtain ⟨rfl, rfl⟩ := he
  generalize Lib.splitB ⟨#[b]⟩ u (Lib.countB s ⟨#[b]⟩) s = L at hlen ⊢
  generalize hN : Lib.countB s ⟨#[b]⟩ + 1 = N at hlen ⊢
  refine back_strs ((Below.refl _ _).alloc (Nat.le_refl _) _) ⟨by simp, .inr ⟨w.heap.size, N, _, _, rfl, Nat.le_refl _, heap_alloc_new _ _, .inl rfl, hlen, ?_, ?_, ?_⟩⟩
  · have : N ≤ s.size + 1 := by rw [← hN, hcount]; omega
    unfold maxLen; omega
  · rw [Lib.cellsOf_size hlen, Nat.mul_one]
  · simp [Lib.cellsOf]
end Go.Pv
