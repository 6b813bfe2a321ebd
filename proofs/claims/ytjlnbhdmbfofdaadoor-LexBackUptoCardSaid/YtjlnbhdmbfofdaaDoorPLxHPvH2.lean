/- A contract of the library or of a function, by hand. -/
import Derived.Test.YtjlnbhdmbfofdaaDoorPLxC
import Derived.Test.YtjlnbhdmbfofdaaDoorPLxHShelfA
set_option linter.unusedVariables false
set_option linter.unusedSimpArgs false
set_option maxRecDepth 100000
namespace Go.Pv
open Go.Proofs Go.RowKit

theorem lexBlanksAt : Tryd.prog.globalNamed "strings.asciiSpace" = some 0 := by kernel_rfl
theorem lexPowAt : Tryd.prog.globalNamed "internal/strconv.uint64pow10" = some 3 := by kernel_rfl
/-- The tables of blanks, of powers and of de Bruijn's numbers are as they were laid, and there is an error for numbers that are too great. -/
def lexLaid (w : World) : Prop := Lib.TabIs Tryd.prog w "strings.asciiSpace" .u8 Lib.asciiSpaceTab ∧ (∃ te pe, w.cell? ⟨5, 0, none⟩ = some (.iface te pe)) ∧
  Lib.TabIs Tryd.prog w "internal/strconv.uint64pow10" .u64 Lib.pow10Tab ∧ w.cell? ⟨7, 15, none⟩ = some (.int .u8 4)
theorem tab_size {w : World} {nm : String} {g : Nat} {k : IntKind} {zs : List Int} (hg : Tryd.prog.globalNamed nm = some g) (h : Lib.TabIs Tryd.prog w nm k zs) : g < w.heap.size := by
  unfold Lib.TabIs World.var? at h
  rw [hg] at h
  simp only [Option.bind_some] at h
  cases hq : w.heap[g]? with
  | none => rw [hq] at h; simp at h
  | some o => exact (Array.getElem?_eq_some_iff.1 hq).1
theorem tab_same {w w' : World} {nm : String} {g : Nat} {k : IntKind} {zs : List Int} (hg : Tryd.prog.globalNamed nm = some g) (h : Lib.TabIs Tryd.prog w nm k zs) (hs : w'.heap[g]? = w.heap[g]?) : Lib.TabIs Tryd.prog w' nm k zs := by
  unfold Lib.TabIs World.var? at h ⊢
  rw [hg] at h ⊢
  simp only [Option.bind_some] at h ⊢
  rw [hs]; exact h
instance : LaidC Tryd.prog where
  L := lexLaid
  gs := [0, 5, 3, 7]
  size := by
    intro w h k hk
    obtain ⟨h1, ⟨te, pe, h2⟩, h3, h4⟩ := h
    simp only [List.mem_cons, List.not_mem_nil, or_false] at hk
    rcases hk with rfl | rfl | rfl | rfl
    · exact tab_size lexBlanksAt h1
    · exact World.block_lt_of_cell? w _ h2
    · exact tab_size lexPowAt h3
    · exact World.block_lt_of_cell? w _ h4
  stable := by
    intro w w' h hs
    obtain ⟨h1, ⟨te, pe, h2⟩, h3, h4⟩ := h
    refine ⟨tab_same lexBlanksAt h1 (hs 0 (by simp)), ⟨te, pe, ?_⟩, tab_same lexPowAt h3 (hs 3 (by simp)), ?_⟩
    · rw [World.cell?_of_block (w := w) (w' := w') (a := ⟨5, 0, none⟩) (hs 5 (by simp))]; exact h2
    · rw [World.cell?_of_block (w := w) (w' := w') (a := ⟨7, 15, none⟩) (hs 7 (by simp))]; exact h4

/-- strings.Fields, of a text of ASCII bytes. -/
def Gstrings_Fields.f (s : ByteArray) : Option (List D) :=
  bif Nat.blt s.size 4294967281 && (s.data.toList.all (fun b => decide (b.toNat < 128)) && Nat.ble (Lib.fields s.data.toList).length 1000) then some ((Lib.fields s.data.toList).map fun l => D.s ⟨l.toArray⟩) else none
def Gstrings_Fields.pk : List FK := [.str]
def Gstrings_Fields.rk : List FK := [.own 9]
def Gstrings_Fields.g : Tp Gstrings_Fields.pk → Option (Tp Gstrings_Fields.rk) := fun x => Gstrings_Fields.f x
theorem str_vals {P : Program} {G : Gh} {ob : Nat → O} {w : World} {s : ByteArray} {vals : List Value} (h : RelVs P G ob w [.s s] vals) : vals = [.string s] := by
  cases vals with
  | nil => simp only [RelVs] at h
  | cons v r =>
    cases r with
    | nil => simp only [RelVs, RelV] at h; rw [h.1]
    | cons => simp only [RelVs, and_false] at h
theorem rd_map (f : List UInt8 → ByteArray) : ∀ (l : List (List UInt8)) (i : Nat) (h : i < l.length), rd (l.map fun x => D.s (f x)) i = .s (f l[i])
  | [], i, h => by simp at h
  | x :: r, 0, h => rfl
  | x :: r, i + 1, h => by simpa [rd] using rd_map f r i (by simpa using h)
theorem Gstrings_Fields.spec : Spec Tryd.prog 34 Gstrings_Fields.pk Gstrings_Fields.rk Gstrings_Fields.g := by
  intro s y hg A w vals hL hv
  obtain rfl := str_vals hv
  unfold Gstrings_Fields.g Gstrings_Fields.f at hg
  cases hb : (Nat.blt s.size 4294967281 && (s.data.toList.all (fun b => decide (b.toNat < 128)) && Nat.ble (Lib.fields s.data.toList).length 1000)) with
  | false => rw [hb] at hg; cases hg
  | true =>
    rw [hb] at hg
    obtain rfl : _ = y := Option.some.inj hg
    simp only [Bool.and_eq_true] at hb
    obtain ⟨h1, h2, h3⟩ := hb
    have h1 := blt_lt h1
    have h3 := Nat.le_of_ble_eq_true h3
    refine (Tryd.strings_Fields s w h1 (fun j b hj => by simpa using List.all_eq_true.1 h2 b (List.mem_of_getElem? hj)) hL.1).mono fun e w' he => ?_
    obtain ⟨rfl, rfl⟩ := he
    generalize hF : Lib.fields s.data.toList = F at h3 ⊢
    let cl : List Value := F.map fun l => Value.string ⟨l.toArray⟩
    let η : Nat → Value := fun n => if n = 1 then .slice (some ⟨w.heap.size, 0, none⟩) F.length F.length else undef
    have hη : η 1 = .slice (some ⟨w.heap.size, 0, none⟩) F.length F.length := if_pos rfl
    have hηn : ∀ n, n ≠ 1 → η n = undef := fun n h => if_neg h
    have hO : mkOb (obR Tryd.prog 1 [.own 9] (F.map fun l => D.s ⟨l.toArray⟩)) 1 = .row 9 (F.map fun l => D.s ⟨l.toArray⟩) 0 := rfl
    have hOn : ∀ n, n ≠ 1 → mkOb (obR Tryd.prog 1 [.own 9] (F.map fun l => D.s ⟨l.toArray⟩)) n = .none := fun n h => by
      simp only [obR, mkKO, mkOb]
      cases hb : Nat.beq n 1 with
      | false => rfl
      | true => exact absurd (beq_eq hb) h
    refine ⟨[.slice (some ⟨w.heap.size, 0, none⟩) F.length F.length], η, rfl, (Below.refl _ _).alloc (Nat.le_refl _) _, ?_, ?_, fun n m b h1 h2 => ?_, fun n b h => ?_⟩
    · show RelVs _ _ _ _ [V.own 1 0] _
      simp only [RelVs, RelV]
      rw [show mkOb (obR Tryd.prog 1 Gstrings_Fields.rk (F.map fun l => D.s ⟨l.toArray⟩)) 1 = .row 9 (F.map fun l => D.s ⟨l.toArray⟩) 0 from hO]
      exact ⟨⟨rfl, Nat.le_refl _, fun _ => hη.symm⟩, trivial⟩
    · intro n
      by_cases hn : n = 1
      · subst hn
        show RelO _ _ _ _ 1 (mkOb (obR Tryd.prog 1 [.own 9] (F.map fun l => D.s ⟨l.toArray⟩)) 1)
        rw [hO]
        have c1 : csz Tryd.prog 9 = 1 := by kernel_rfl
        have c2 : isA Tryd.prog 9 = false := by kernel_rfl
        have c3 : cks Tryd.prog 9 = [.str] := by kernel_rfl
        refine ⟨by kernel_rfl, cl, ?_, fun i hi => ⟨(fun h => by rw [c2] at h; cases h), fun j hj => ?_⟩⟩
        · show World.ownsRow _ _ _ _ (η 1) _ _
          rw [hη, c1]
          refine ⟨by simp [cl], .inr ⟨w.heap.size, F.length, cl.toArray, by simp, Nat.zero_le _, heap_alloc_new _ _, by simp, ?_, by simp [cl], by simp [cl, List.take_of_length_le]⟩⟩
          unfold maxLen; omega
        · rw [c1] at hj ⊢
          obtain rfl : j = 0 := by omega
          have hi' : i < F.length := by simpa using hi
          refine ⟨.string ⟨F[i].toArray⟩, by simp [cl, hi'], ?_⟩
          rw [c2, c3, rd_map (fun l => ⟨l.toArray⟩) F i hi']
          exact .str _
      · rw [show mkOb (obR Tryd.prog 1 Gstrings_Fields.rk (F.map fun l => D.s ⟨l.toArray⟩)) n = .none from hOn n hn]
        simp only [RelO]
    · have e1 : n = 1 := Classical.byContradiction fun h => by rw [hηn n h] at h1; simp [undef, blk] at h1
      have e2 : m = 1 := Classical.byContradiction fun h => by rw [hηn m h] at h2; simp [undef, blk] at h2
      rw [e1, e2]
    · have e1 : n = 1 := Classical.byContradiction fun h' => by rw [hηn n h'] at h; simp [undef, blk] at h
      rw [e1, hη] at h
      obtain rfl : w.heap.size = b := by simpa [blk] using h
      simp

/-- What a contract of plain results needs. -/
theorem back_plain {P : Program} {A : Nat → Prop} {w w' : World} {ks : List FK} {y : Tp ks} {vs : List Value} (hb : Below w.heap.size w w') (ho : obR P 1 ks y = [])
    (hr : RelVs P ⟨fun b => A b ∨ w.heap.size ≤ b, w'.heap.size, fun _ => undef⟩ (fun _ => .none) w' (envR P 1 ks y) vs) : Back P A w ks y (.returned (retVal vs)) w' := by
  refine ⟨vs, fun _ => undef, rfl, hb, ?_, fun n => ?_, fun n m b h => ?_, fun n b h => ?_⟩
  · rw [ho]; exact hr
  · rw [ho]; simp only [mkOb, RelO]
  · simp [undef, blk] at h
  · simp [undef, blk] at h

/-- strings.IndexByte. -/
def Gstrings_IndexByte.f (s : ByteArray) (c : Int) : Option Int := some (Lib.indexByte s.data.toList c.toNat.toUInt8)
def Gstrings_IndexByte.pk : List FK := [.str, .int .u8]
def Gstrings_IndexByte.rk : List FK := [.int .i64]
def Gstrings_IndexByte.g : Tp Gstrings_IndexByte.pk → Option (Tp Gstrings_IndexByte.rk) := fun x => Gstrings_IndexByte.f x.1 x.2
theorem Gstrings_IndexByte.spec : Spec Tryd.prog 46 Gstrings_IndexByte.pk Gstrings_IndexByte.rk Gstrings_IndexByte.g := by
  intro x y hg A w vals hL hv
  obtain ⟨s, c⟩ := x
  obtain rfl : _ = y := Option.some.inj hg
  obtain rfl : vals = [.string s, .int .u8 c] := by
    replace hv : RelVs _ _ _ _ [V.s s, V.i .u8 c] vals := hv
    match vals, hv with
    | [v, u], hv => simp only [RelVs, RelV] at hv; rw [hv.1, hv.2.1]
    | [], hv => simp only [RelVs] at hv
    | [_], hv => simp only [RelVs, and_false] at hv
    | _ :: _ :: _ :: _, hv => simp only [RelVs, and_false] at hv
  refine (Tryd.strings_IndexByte s c w).mono fun e w' he => ?_
  obtain ⟨rfl, rfl⟩ := he
  exact back_plain (vs := [_]) (Below.refl _ _) rfl (by
    show RelVs _ _ _ _ [V.i .i64 _] _
    simp only [RelVs, RelV]; exact ⟨trivial, trivial⟩)

/-- The error of a number that is too great. -/
def Gstrconv_toError.f (_fn s : ByteArray) (_b _n : Int) (c : Nat) : Option Nat := bif Nat.beq c 1011 && Nat.ble s.size 1000000000 then some 1 else none
def Gstrconv_toError.pk : List FK := [.str, .str, .int .i64, .int .i64, .err]
def Gstrconv_toError.rk : List FK := [.err]
def Gstrconv_toError.g : Tp Gstrconv_toError.pk → Option (Tp Gstrconv_toError.rk) := fun x => Gstrconv_toError.f x.1 x.2.1 x.2.2.1 x.2.2.2.1 x.2.2.2.2
theorem Gstrconv_toError.spec : Spec Tryd.prog 100 Gstrconv_toError.pk Gstrconv_toError.rk Gstrconv_toError.g := by
  intro x y hg A w vals hL hv
  obtain ⟨fn, s, b, n, c⟩ := x
  unfold Gstrconv_toError.g Gstrconv_toError.f at hg
  simp only at hg
  cases hb : (Nat.beq c 1011 && Nat.ble s.size 1000000000) with
  | false => rw [hb] at hg; cases hg
  | true =>
    rw [hb] at hg
    obtain rfl : (1 : Nat) = y := Option.some.inj hg
    rw [Bool.and_eq_true] at hb
    obtain rfl := beq_eq hb.1
    have h2 := Nat.le_of_ble_eq_true hb.2
    obtain rfl : vals = [.string fn, .string s, .int .i64 b, .int .i64 n, .iface 126 (.int .i64 1)] := by
      replace hv : RelVs _ _ _ _ [V.s fn, V.s s, V.i .i64 b, V.i .i64 n, V.er 1011] vals := hv
      match vals, hv with
      | [v1, v2, v3, v4, v5], hv =>
        simp only [RelVs, RelV] at hv
        rw [hv.1, hv.2.1, hv.2.2.1, hv.2.2.2.1, hv.2.2.2.2.1.2.2 (by decide)]
        rfl
      | [], hv => simp only [RelVs] at hv
      | [_], hv => simp only [RelVs, and_false] at hv
      | [_, _], hv => simp only [RelVs, and_false] at hv
      | [_, _, _], hv => simp only [RelVs, and_false] at hv
      | [_, _, _, _], hv => simp only [RelVs, and_false] at hv
      | _ :: _ :: _ :: _ :: _ :: _ :: _, hv => simp only [RelVs, and_false] at hv
    obtain ⟨-, ⟨te, pe, h5⟩, -⟩ := hL
    refine (Tryd.strconv_toError_range fn s b n _ w (by omega) h5 (.inr ⟨te, pe, rfl⟩)).mono fun e w' he => ?_
    obtain ⟨N, rfl, -, -, hbel⟩ := he
    exact back_plain (vs := [_]) hbel rfl (by
      show RelVs _ _ _ _ [V.er 1] _
      simp only [RelVs, RelV]
      exact ⟨⟨fun h => by omega, fun _ => ⟨_, _, rfl⟩, fun h => by omega⟩, trivial⟩)
end Go.Pv
