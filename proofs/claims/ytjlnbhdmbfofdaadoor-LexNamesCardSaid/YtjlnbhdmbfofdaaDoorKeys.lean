/- The contracts of lex.Keys and lex.Signs: they return the lists of the chapter, in new memory; the table of blanks is as it was laid. -/
import Derived.Test.YtjlnbhdmbfofdaaDoorFields
import Derived.Test.YtjlnbhdmbfofdaaDoorPLexNamesx0
import Derived.Lib.Hide
import Derived.WalkSmall
import Derived.KernelRfl
namespace Go.Proofs.YtjlnbhdmbfofdaaDoor.Lx
open Go Go.RowKit Go.Proofs.YtjlnbhdmbfofdaaDoorW.PrintWords Go.Proofs.YtjlnbhdmbfofdaaDoorW.PrintLast Go.Proofs.YtjlnbhdmbfofdaaDoorW.PrintMore
def keysL : List ByteArray := [(⟨#[97, 110, 100]⟩ : ByteArray), (⟨#[98, 101]⟩ : ByteArray), (⟨#[98, 114, 101, 97, 107]⟩ : ByteArray), (⟨#[98, 121]⟩ : ByteArray), (⟨#[99, 97, 115, 101]⟩ : ByteArray), (⟨#[100, 101, 102, 97, 117, 108, 116]⟩ : ByteArray), (⟨#[100, 111]⟩ : ByteArray), (⟨#[101, 108, 115, 101]⟩ : ByteArray), (⟨#[101, 110, 100, 99, 97, 115, 101]⟩ : ByteArray), (⟨#[101, 113, 118]⟩ : ByteArray), (⟨#[102, 97, 108, 115, 101]⟩ : ByteArray), (⟨#[102, 105, 110, 105, 115, 104]⟩ : ByteArray), (⟨#[102, 111, 114]⟩ : ByteArray), (⟨#[103, 108, 111, 98, 97, 108]⟩ : ByteArray), (⟨#[103, 111, 116, 111]⟩ : ByteArray), (⟨#[105, 102]⟩ : ByteArray), (⟨#[105, 110, 116, 111]⟩ : ByteArray), (⟨#[108, 101, 116]⟩ : ByteArray), (⟨#[108, 111, 111, 112]⟩ : ByteArray), (⟨#[109, 97, 110, 105, 102, 101, 115, 116]⟩ : ByteArray), (⟨#[111, 102]⟩ : ByteArray), (⟨#[111, 114]⟩ : ByteArray), (⟨#[114, 101, 109]⟩ : ByteArray), (⟨#[114, 101, 112, 101, 97, 116]⟩ : ByteArray), (⟨#[114, 101, 112, 101, 97, 116, 117, 110, 116, 105, 108]⟩ : ByteArray), (⟨#[114, 101, 112, 101, 97, 116, 119, 104, 105, 108, 101]⟩ : ByteArray), (⟨#[114, 101, 115, 117, 108, 116, 105, 115]⟩ : ByteArray), (⟨#[114, 101, 116, 117, 114, 110]⟩ : ByteArray), (⟨#[115, 101, 99, 116, 105, 111, 110]⟩ : ByteArray), (⟨#[115, 108, 99, 116]⟩ : ByteArray), (⟨#[115, 116, 97, 116, 105, 99]⟩ : ByteArray), (⟨#[115, 119, 105, 116, 99, 104, 111, 110]⟩ : ByteArray), (⟨#[116, 97, 98, 108, 101]⟩ : ByteArray), (⟨#[116, 101, 115, 116]⟩ : ByteArray), (⟨#[116, 104, 101, 110]⟩ : ByteArray), (⟨#[116, 111]⟩ : ByteArray), (⟨#[116, 114, 117, 101]⟩ : ByteArray), (⟨#[117, 110, 108, 101, 115, 115]⟩ : ByteArray), (⟨#[117, 110, 116, 105, 108]⟩ : ByteArray), (⟨#[118, 97, 108, 111, 102]⟩ : ByteArray), (⟨#[118, 101, 99]⟩ : ByteArray), (⟨#[119, 104, 105, 108, 101]⟩ : ByteArray), (⟨#[120, 111, 114]⟩ : ByteArray)]
def signsL : List ByteArray := [(⟨#[40]⟩ : ByteArray), (⟨#[41]⟩ : ByteArray), (⟨#[123]⟩ : ByteArray), (⟨#[125]⟩ : ByteArray), (⟨#[44]⟩ : ByteArray), (⟨#[59]⟩ : ByteArray), (⟨#[58]⟩ : ByteArray), (⟨#[33]⟩ : ByteArray), (⟨#[37]⟩ : ByteArray), (⟨#[64]⟩ : ByteArray), (⟨#[43]⟩ : ByteArray), (⟨#[45]⟩ : ByteArray), (⟨#[42]⟩ : ByteArray), (⟨#[47]⟩ : ByteArray), (⟨#[38]⟩ : ByteArray), (⟨#[124]⟩ : ByteArray), (⟨#[126]⟩ : ByteArray), (⟨#[63]⟩ : ByteArray), (⟨#[61]⟩ : ByteArray), (⟨#[126, 61]⟩ : ByteArray), (⟨#[60]⟩ : ByteArray), (⟨#[60, 61]⟩ : ByteArray), (⟨#[62]⟩ : ByteArray), (⟨#[62, 61]⟩ : ByteArray), (⟨#[60, 60]⟩ : ByteArray), (⟨#[62, 62]⟩ : ByteArray), (⟨#[58, 61]⟩ : ByteArray), (⟨#[45, 62]⟩ : ByteArray)]
/-- The table of blanks, as a fact of a world. -/
def Blanks (w : World) : Prop := Lib.TabIs Tryd.prog w "strings.asciiSpace" .u8 Lib.asciiSpaceTab
def keysText : ByteArray := ⟨(([97, 110, 100, 32, 98, 101, 32, 98, 114, 101, 97, 107, 32, 98, 121, 32, 99, 97, 115, 101, 32, 100, 101, 102, 97, 117, 108, 116, 32, 100, 111, 32, 101, 108, 115, 101, 32, 101, 110, 100, 99, 97, 115, 101, 32, 101, 113, 118, 32, 102, 97, 108, 115, 101, 32, 102, 105, 110, 105, 115, 104, 32, 102, 111, 114, 32, 103, 108, 111, 98, 97, 108, 32, 103, 111, 116, 111, 32, 105, 102, 32, 105, 110, 116, 111, 32, 108, 101, 116, 32, 108, 111, 111, 112, 32, 109, 97, 110, 105, 102, 101, 115, 116, 32, 111, 102, 32, 111, 114, 32, 114, 101, 109, 32, 114, 101, 112, 101, 97, 116, 32, 114, 101, 112, 101, 97, 116, 117, 110, 116, 105, 108, 32, 114, 101, 112, 101, 97, 116, 119, 104, 105, 108, 101, 32, 114, 101, 115, 117, 108, 116, 105, 115, 32, 114, 101, 116, 117, 114, 110, 32, 115, 101, 99, 116, 105, 111, 110, 32, 115, 108, 99, 116, 32, 115, 116, 97, 116, 105, 99, 32, 115, 119, 105, 116, 99, 104, 111, 110, 32, 116, 97, 98, 108, 101, 32, 116, 101, 115, 116, 32, 116, 104, 101, 110, 32, 116, 111, 32, 116, 114, 117, 101, 32, 117, 110, 108, 101, 115, 115, 32, 117, 110, 116, 105, 108, 32, 118, 97, 108, 111, 102, 32, 118, 101, 99, 32, 119, 104, 105, 108, 101, 32, 120, 111, 114] : List UInt8)).toArray⟩
def signsText : ByteArray := ⟨([40, 32, 41, 32, 123, 32, 125, 32, 44, 32, 59, 32, 58, 32, 33, 32, 37, 32, 64, 32, 43, 32, 45, 32, 42, 32, 47, 32, 38, 32, 124, 32, 126, 32, 63, 32, 61, 32, 126, 61, 32, 60, 32, 60, 61, 32, 62, 32, 62, 61, 32, 60, 60, 32, 62, 62, 32, 58, 61, 32, 45, 62] : List UInt8).toArray⟩
theorem fieldsKeys : (Lib.fields keysText.data.toList).map (fun l => (⟨l.toArray⟩ : ByteArray)) = keysL := by kernel_rfl
theorem fieldsSigns : (Lib.fields signsText.data.toList).map (fun l => (⟨l.toArray⟩ : ByteArray)) = signsL := by kernel_rfl
theorem row_of (W : World) (xs : List ByteArray) (hm : xs.length ≤ 9223372036854775807) :
    Kd.R Kd.string 9 (W.alloc (.cells (xs.map Value.string).toArray 9)) W.heap.size (fun _ => True) (.slice (some ⟨W.heap.size, 0, none⟩) xs.length xs.length) xs :=
  Kd.R_of_own (own_lit_of (enc := Value.string) W W.heap.size 9 xs (Nat.le_refl _) hm) (fun _ _ => trivial)
theorem below_alloc_self (W : World) (o : Obj) : Below W.heap.size W (W.alloc o) := (Below.refl _ _).alloc (Nat.le_refl _) o
theorem fields_calls (t : ByteArray) (xs : List ByteArray) (w : World) (hf : (Lib.fields t.data.toList).map (fun l => (⟨l.toArray⟩ : ByteArray)) = xs) (hs : t.size < 4294967281)
    (ha : ∀ (j : Nat) b, t.data.toList[j]? = some b → b.toNat < 128) (hb : Blanks w) :
    Calls Tryd.prog 34 #[.string t] w fun e w' => e = .returned (.slice (some ⟨w.heap.size, 0, none⟩) xs.length xs.length) ∧ w' = w.alloc (.cells (xs.map Value.string).toArray 9) := by
  refine (Tryd.strings_Fields t w hs ha hb).mono ?_
  rintro e w' ⟨rfl, rfl⟩
  subst hf
  exact ⟨by rw [List.length_map], by rw [List.map_map]; rfl⟩
theorem ascii_of {l : List UInt8} (h : l.all (fun b => decide (b.toNat < 128)) = true) : ∀ (j : Nat) b, l[j]? = some b → b.toNat < 128 := fun j b hj => by
  simpa using List.all_eq_true.1 h b (List.mem_of_getElem? hj)
set_option maxRecDepth 100000 in
theorem Keys_calls (w : World) (hb : Blanks w) :
    Calls Tryd.prog 15 #[] w fun e w' => e = .returned (.slice (some ⟨w.heap.size, 0, none⟩) keysL.length keysL.length) ∧ w' = w.alloc (.cells (keysL.map Value.string).toArray 9) := by
  have HB := Lib.hid hb
  clear hb
  go_enter Tryd.func15, Tryd.ntmps15
  go_wp2_with fail
  refine (fields_calls _ keysL _ ?hf ?hs ?ha HB.out).mono ?_
  case hf => kernel_rfl
  case hs => exact of_decide_eq_true (by kernel_rfl)
  case ha => exact ascii_of (by kernel_rfl)
  rintro e w' ⟨rfl, rfl⟩
  go_wp2_with fail
  go_ret
  exact ⟨rfl, rfl⟩
set_option maxRecDepth 100000 in
theorem Signs_calls (w : World) (hb : Blanks w) :
    Calls Tryd.prog 17 #[] w fun e w' => e = .returned (.slice (some ⟨w.heap.size, 0, none⟩) signsL.length signsL.length) ∧ w' = w.alloc (.cells (signsL.map Value.string).toArray 9) := by
  have HB := Lib.hid hb
  clear hb
  go_enter Tryd.func17, Tryd.ntmps17
  go_wp2_with fail
  refine (fields_calls _ signsL _ ?hf ?hs ?ha HB.out).mono ?_
  case hf => kernel_rfl
  case hs => exact of_decide_eq_true (by kernel_rfl)
  case ha => exact ascii_of (by kernel_rfl)
  rintro e w' ⟨rfl, rfl⟩
  go_wp2_with fail
  go_ret
  exact ⟨rfl, rfl⟩
theorem blanksAt : Tryd.prog.globalNamed "strings.asciiSpace" = some 0 := by kernel_rfl
theorem Blanks.lt {w : World} (h : Blanks w) : 0 < w.heap.size := by
  unfold Blanks Lib.TabIs World.var? at h
  rw [blanksAt] at h
  simp only [Option.bind_some] at h
  cases hq : w.heap[0]? with
  | none => rw [hq] at h; simp at h
  | some o => exact (Array.getElem?_eq_some_iff.1 hq).1
theorem Blanks.below {w w' : World} (h : Blanks w) (hb : Below w.heap.size w w') : Blanks w' := var?_below hb blanksAt h.lt h
theorem Blanks.alloc {w : World} (h : Blanks w) (o : Obj) : Blanks (w.alloc o) := h.below (below_alloc_self w o)
end Go.Proofs.YtjlnbhdmbfofdaaDoor.Lx
