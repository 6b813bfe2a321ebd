/- A contract of the library or of a function, by hand. -/
import Derived.Test.YtgileklccaliiaaDoorPOcC
import Derived.Test.YtgileklccaliiaaDoorPOcHShelfA
import Derived.Lib.AppendIntMem
set_option linter.unusedVariables false
set_option linter.unusedSimpArgs false
set_option maxRecDepth 100000
namespace Go.Pv
open Go.Proofs Go.RowKit

theorem papPowAt : Tryd.prog.globalNamed "internal/strconv.uint64pow10" = some 2 := by kernel_rfl
theorem papBlanksAt : Tryd.prog.globalNamed "strings.asciiSpace" = some 0 := by kernel_rfl
/-- The tables of powers and of blanks are as they were laid. -/
def papLaid (w : World) : Prop := Lib.TabIs Tryd.prog w "internal/strconv.uint64pow10" .u64 Lib.pow10Tab ∧ Lib.TabIs Tryd.prog w "strings.asciiSpace" .u8 Lib.asciiSpaceTab
theorem tab_size {w : World} {nm : String} {g : Nat} {k : IntKind} {zs : List Int} (hg : Tryd.prog.globalNamed nm = some g) (h : Lib.TabIs Tryd.prog w nm k zs) : g < w.heap.size := by
  unfold Lib.TabIs World.var? at h
  rw [hg] at h
  simp only [Option.bind_some] at h
  cases hq : w.heap[g]? with
  | none => rw [hq] at h; simp at h
  | some o => exact (Array.getElem?_eq_some_iff.1 hq).1
theorem tab_same {w w' : World} {nm : String} {g : Nat} {k : IntKind} {zs : List Int} (hg : Tryd.prog.globalNamed nm = some g) (h : Lib.TabIs Tryd.prog w nm k zs) (hs : w'.heap[g]? = w.heap[g]?) : Lib.TabIs Tryd.prog w' nm k zs := by
  unfold Lib.TabIs World.var? at h ⊢
  rw [hg] at h ⊢
  simp only [Option.bind_some] at h ⊢
  rw [hs]; exact h
instance : LaidC Tryd.prog where
  L := papLaid
  gs := [2, 0]
  size := by
    intro w h k hk
    obtain ⟨h3, h4⟩ := h
    simp only [List.mem_cons, List.not_mem_nil, or_false] at hk
    rcases hk with rfl | rfl
    · exact tab_size papPowAt h3
    · exact tab_size papBlanksAt h4
  stable := by
    intro w w' h hs
    obtain ⟨h3, h4⟩ := h
    exact ⟨tab_same papPowAt h3 (hs 2 (by simp)), tab_same papBlanksAt h4 (hs 0 (by simp))⟩

/-! ### Values -/
theorem vals1 {P : Program} {G : Gh} {ob : Nat → O} {w : World} {x : V} {vals : List Value} (h : RelVs P G ob w [x] vals) : ∃ a, vals = [a] ∧ RelV P G ob w x a := by
  match vals, h with
  | [v], h => simp only [RelVs] at h; exact ⟨v, rfl, h.1⟩
  | [], h => simp only [RelVs] at h
  | _ :: _ :: _, h => simp only [RelVs, and_false] at h
theorem vals2 {P : Program} {G : Gh} {ob : Nat → O} {w : World} {x y : V} {vals : List Value} (h : RelVs P G ob w [x, y] vals) : ∃ a b, vals = [a, b] ∧ RelV P G ob w x a ∧ RelV P G ob w y b := by
  match vals, h with
  | v :: vs, h =>
    simp only [RelVs] at h
    obtain ⟨b, rfl, h2⟩ := vals1 h.2
    exact ⟨v, b, rfl, h.1, h2⟩
  | [], h => simp only [RelVs] at h
theorem vals4 {P : Program} {G : Gh} {ob : Nat → O} {w : World} {x y q u : V} {vals : List Value} (h : RelVs P G ob w [x, y, q, u] vals) : ∃ a b c d, vals = [a, b, c, d] ∧ RelV P G ob w x a ∧ RelV P G ob w y b ∧ RelV P G ob w q c ∧ RelV P G ob w u d := by
  match vals, h with
  | v :: v' :: vs, h =>
    simp only [RelVs] at h
    obtain ⟨b, c, rfl, h2, h3⟩ := vals2 h.2.2
    exact ⟨v, v', b, c, rfl, h.1, h.2.1, h2, h3⟩
  | [], h => simp only [RelVs] at h
  | [_], h => simp only [RelVs, and_false] at h
/-- What a contract of plain results needs. -/
theorem back_plain {P : Program} {A : Nat → Prop} {w w' : World} {ks : List FK} {y : Tp ks} {vs : List Value} (hb : Below w.heap.size w w') (ho : obR P 1 ks y = [])
    (hr : RelVs P ⟨fun b => A b ∨ w.heap.size ≤ b, w'.heap.size, fun _ => undef⟩ (fun _ => .none) w' (envR P 1 ks y) vs) : Back P A w ks y (.returned (retVal vs)) w' := by
  refine ⟨vs, fun _ => undef, rfl, hb, ?_, fun n => ?_, fun n m b h => ?_, fun n b h => ?_⟩
  · rw [ho]; exact hr
  · rw [ho]; simp only [mkOb, RelO]
  · simp [undef, blk] at h
  · simp [undef, blk] at h
theorem back_str {P : Program} {A : Nat → Prop} {w w' : World} (hb : Below w.heap.size w w') (s : ByteArray) : Back P A w [.str] s (.returned (.string s)) w' :=
  back_plain (ks := [.str]) (y := s) (vs := [_]) hb rfl (by
    show RelVs _ _ _ _ [V.s s] _
    simp only [RelVs, RelV]; exact ⟨trivial, trivial⟩)
theorem back_bool {P : Program} {A : Nat → Prop} {w w' : World} (hb : Below w.heap.size w w') (x : Bool) : Back P A w [.bool] x (.returned (.bool x)) w' :=
  back_plain (ks := [.bool]) (y := x) (vs := [_]) hb rfl (by
    show RelVs _ _ _ _ [V.b x] _
    simp only [RelVs, RelV]; exact ⟨trivial, trivial⟩)
theorem rd_at : ∀ (l : List D) (i : Nat) (h : i < l.length), rd l i = l[i]
  | x :: r, 0, _ => rfl
  | x :: r, i + 1, h => rd_at r i (by simpa using h)
theorem strC1 : csz Tryd.prog 9 = 1 := by kernel_rfl
theorem strC2 : isA Tryd.prog 9 = false := by kernel_rfl
theorem strC3 : cks Tryd.prog 9 = [.str] := by kernel_rfl
theorem strC4 : okT Tryd.prog 9 = true := by kernel_rfl
theorem str_elems {w : World} {ok : Nat → Prop} (xs : List ByteArray) : Elems Tryd.prog w ok 9 (fun k => (xs.map Value.string)[k]?) (xs.map D.s) := fun i hi => by
  have hi' : i < xs.length := by simpa using hi
  refine ⟨(fun h => by rw [strC2] at h; cases h), fun j hj => ?_⟩
  rw [strC1] at hj ⊢
  obtain rfl : j = 0 := by omega
  refine ⟨.string xs[i], by simp [hi'], ?_⟩
  rw [strC2, strC3, rd_at _ i hi]
  simp only [D.ecell, List.getElem_map]
  exact .str _
/-- A result that is a slice of texts, of the call's own. -/
theorem back_strs {A : Nat → Prop} {w w' : World} {v : Value} {xs : List ByteArray} (hb : Below w.heap.size w w') (ho : w'.ownsT true w.heap.size 9 1 v xs.length (xs.map Value.string)) :
    Back Tryd.prog A w [.own 9] (xs.map D.s) (.returned v) w' := by
  let η : Nat → Value := fun n => if n = 1 then v else undef
  have hη : η 1 = v := if_pos rfl
  have hηn : ∀ n, n ≠ 1 → η n = undef := fun n h => if_neg h
  have hO : mkOb (obR Tryd.prog 1 [.own 9] (xs.map D.s)) 1 = .row 9 (xs.map D.s) 1 := rfl
  have hOn : ∀ n, n ≠ 1 → mkOb (obR Tryd.prog 1 [.own 9] (xs.map D.s)) n = .none := fun n h => by
    simp only [obR, mkKO, mkOb, beq_false h, cond_false]
  have hone : v.oneCell' = true := by rcases ho.2 with ⟨h, _⟩ | ⟨_, _, _, _, h, _⟩ <;> rw [h] <;> rfl
  have hbk : ∀ b, blk v = some b → w.heap.size ≤ b ∧ b < w'.heap.size := fun b h => by
    rcases ho.2 with ⟨hv, _⟩ | ⟨g, cap, cur, fz, hv, hg, hh, _⟩
    · rw [hv] at h; cases h
    · rw [hv] at h
      obtain rfl : g = b := by simpa [blk] using h
      exact ⟨hg, (Array.getElem?_eq_some_iff.1 hh).1⟩
  refine ⟨[v], η, rfl, hb, ?_, ?_, fun n m b h1 h2 => ?_, fun n b h => ?_⟩
  · show RelVs _ _ _ _ [V.own 1 1] _
    simp only [RelVs, RelV]
    rw [hO]
    exact ⟨⟨hone, Nat.le_refl _, fun _ => hη.symm⟩, trivial⟩
  · intro n
    by_cases hn : n = 1
    · subst hn
      show RelO _ _ _ _ 1 (mkOb (obR Tryd.prog 1 [.own 9] (xs.map D.s)) 1)
      rw [hO]
      refine ⟨strC4, _, ?_, str_elems xs⟩
      show World.ownsT _ (od 1) _ _ _ (η 1) _ _
      rw [hη, strC1, List.length_map]
      refine ⟨ho.1, ?_⟩
      rcases ho.2 with h | ⟨g, cap, cur, fz, h1, h2, r⟩
      · exact .inl h
      · exact .inr ⟨g, cap, cur, fz, h1, Nat.zero_le _, r⟩
    · rw [hOn n hn]
      simp only [RelO]
  · have e1 : n = 1 := Classical.byContradiction fun h => by rw [hηn n h] at h1; simp [undef, blk] at h1
    have e2 : m = 1 := Classical.byContradiction fun h => by rw [hηn m h] at h2; simp [undef, blk] at h2
    rw [e1, e2]
  · have e1 : n = 1 := Classical.byContradiction fun h' => by rw [hηn n h'] at h; simp [undef, blk] at h
    rw [e1, hη] at h
    exact hbk b h

/-! ### Numerals -/
/-- strconv.Itoa. -/
def Gstrconv_Itoa.f (n : Int) : Option ByteArray := bif decide (-9223372036854775808 ≤ n) && decide (n ≤ 9223372036854775807) then some ⟨(Lib.itoa n).toArray⟩ else none
def Gstrconv_Itoa.pk : List FK := [.int .i64]
def Gstrconv_Itoa.rk : List FK := [.str]
def Gstrconv_Itoa.g : Tp Gstrconv_Itoa.pk → Option (Tp Gstrconv_Itoa.rk) := fun x => Gstrconv_Itoa.f x
theorem cond_some {α : Type} {b : Bool} {x : Option α} {y : α} (h : (bif b then x else none) = some y) : b = true ∧ x = some y := by
  cases b with
  | false => cases h
  | true => exact ⟨rfl, h⟩
theorem Gstrconv_Itoa.spec : Spec Tryd.prog 16 Gstrconv_Itoa.pk Gstrconv_Itoa.rk Gstrconv_Itoa.g := by
  intro n y hg A w vals hL hv
  obtain ⟨a, rfl, ha⟩ := vals1 hv
  simp only [mkK, RelV] at ha
  subst ha
  obtain ⟨hb, hy⟩ := cond_some (show Gstrconv_Itoa.f n = some y from hg)
  simp only [Bool.and_eq_true, decide_eq_true_eq] at hb
  obtain rfl := Option.some.inj hy
  refine (Tryd.strconv_Itoa n hb.1 hb.2 w hL.1).mono fun e w' he => ?_
  obtain ⟨rfl, k, os, rfl⟩ := he
  exact back_str (Lib.below_grow _ w (Nat.le_refl _) k os) _
/-- strings.IndexByte. -/
def Gstrings_IndexByte.f (s : ByteArray) (c : Int) : Option Int := some (Lib.indexByte s.data.toList c.toNat.toUInt8)
def Gstrings_IndexByte.pk : List FK := [.str, .int .u8]
def Gstrings_IndexByte.rk : List FK := [.int .i64]
def Gstrings_IndexByte.g : Tp Gstrings_IndexByte.pk → Option (Tp Gstrings_IndexByte.rk) := fun x => Gstrings_IndexByte.f x.1 x.2
theorem Gstrings_IndexByte.spec : Spec Tryd.prog 29 Gstrings_IndexByte.pk Gstrings_IndexByte.rk Gstrings_IndexByte.g := by
  intro x y hg A w vals hL hv
  obtain ⟨s, c⟩ := x
  obtain rfl : _ = y := Option.some.inj hg
  obtain ⟨p, q, rfl, hp, hq⟩ := vals2 hv
  simp only [mkK, RelV] at hp hq
  subst hp; subst hq
  refine (Tryd.strings_IndexByte s c w).mono fun e w' he => ?_
  obtain ⟨rfl, rfl⟩ := he
  exact back_plain (vs := [_]) (Below.refl _ _) rfl (by
    show RelVs _ _ _ _ [V.i .i64 _] _
    simp only [RelVs, RelV]; exact ⟨trivial, trivial⟩)
/-- strings.Fields, of a text of ASCII bytes. -/
def Gstrings_Fields.f (s : ByteArray) : Option (List D) :=
  bif Nat.blt s.size 4294967281 && (s.data.toList.all (fun b => decide (b.toNat < 128)) && Nat.ble (Lib.fields s.data.toList).length 1000) then some (((Lib.fields s.data.toList).map fun l => (⟨l.toArray⟩ : ByteArray)).map D.s) else none
def Gstrings_Fields.pk : List FK := [.str]
def Gstrings_Fields.rk : List FK := [.own 9]
def Gstrings_Fields.g : Tp Gstrings_Fields.pk → Option (Tp Gstrings_Fields.rk) := fun x => Gstrings_Fields.f x
theorem Gstrings_Fields.spec : Spec Tryd.prog 52 Gstrings_Fields.pk Gstrings_Fields.rk Gstrings_Fields.g := by
  intro s y hg A w vals hL hv
  obtain ⟨p, rfl, hp⟩ := vals1 hv
  simp only [mkK, RelV] at hp
  subst hp
  obtain ⟨hb, hy⟩ := cond_some (show Gstrings_Fields.f s = some y from hg)
  obtain rfl := Option.some.inj hy
  simp only [Bool.and_eq_true] at hb
  obtain ⟨h1, h2, h3⟩ := hb
  have h1 := blt_lt h1
  have h3 := Nat.le_of_ble_eq_true h3
  refine (Tryd.strings_Fields s w h1 (fun j b hj => by simpa using List.all_eq_true.1 h2 b (List.mem_of_getElem? hj)) hL.2).mono fun e w' he => ?_
  obtain ⟨rfl, rfl⟩ := he
  refine back_strs (xs := (Lib.fields s.data.toList).map fun l => (⟨l.toArray⟩ : ByteArray)) ((Below.refl _ _).alloc (Nat.le_refl _) _) ?_
  generalize Lib.fields s.data.toList = F at h3 ⊢
  refine ⟨by simp, .inr ⟨w.heap.size, F.length, _, (0, 0), by simp, Nat.le_refl _, heap_alloc_new _ _, .inl rfl, by simp, ?_, by simp, by simp [List.take_of_length_le]⟩⟩
  unfold maxLen; omega
end Go.Pv
