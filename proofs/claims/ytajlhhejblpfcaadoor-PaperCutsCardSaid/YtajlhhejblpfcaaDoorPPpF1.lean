/- The program's functions as functions of data, and their contracts. -/
import Derived.Test.YtajlhhejblpfcaaDoorPPpC
import Derived.Test.YtajlhhejblpfcaaDoorPPpHBdF
import Derived.Test.YtajlhhejblpfcaaDoorPPpHBufF
import Derived.Test.YtajlhhejblpfcaaDoorProg
set_option linter.unusedVariables false
set_option linter.unusedSimpArgs false
set_option maxRecDepth 100000
namespace Go.Pv
noncomputable section
open Go.Proofs
def strNil : ByteArray := ⟨#[]⟩
def str20 : ByteArray := ⟨#[32]⟩
def str30 : ByteArray := ⟨#[48]⟩
def str706b310a : ByteArray := ⟨#[112, 107, 49, 10]⟩
def str66696c6520 : ByteArray := ⟨#[102, 105, 108, 101, 32]⟩
def str0a : ByteArray := ⟨#[10]⟩
def str656e6420 : ByteArray := ⟨#[101, 110, 100, 32]⟩
def str61 : ByteArray := ⟨#[97]⟩
def str62 : ByteArray := ⟨#[98]⟩
def str63 : ByteArray := ⟨#[99]⟩
def str6120206220202063 : ByteArray := ⟨#[97, 32, 32, 98, 32, 32, 32, 99]⟩
def str706b310a656e6420300a : ByteArray := ⟨#[112, 107, 49, 10, 101, 110, 100, 32, 48, 10]⟩
def str30313233343536373839 : ByteArray := ⟨#[48, 49, 50, 51, 52, 53, 54, 55, 56, 57]⟩
def str30313233343536373839616263646566 : ByteArray := ⟨#[48, 49, 50, 51, 52, 53, 54, 55, 56, 57, 97, 98, 99, 100, 101, 102]⟩
def str0c : ByteArray := ⟨#[12]⟩

/-! ### 8 bluebell/bluebelllaw28.large -/
def Gw28_large.l58 : Nat → (List D) → Int → Int → ((List D × Int) → Option Bool) → Option Bool
  | 0, _, _, _, _ => none
  | k + 1, v0, v3, v4, κ1 =>
    bif decide (v4 < (v0.length : Int)) then gd (inB v4 v0.length) (gd (inB v4 v0.length) (Gw28_large.l58 k v0 (IntKind.i64.wrap (v3 + (IntKind.i64.wrap (((((rd v0 v4.toNat).cell 1).list).length : Int) + ((((rd v0 v4.toNat).cell 0).str).size : Int))))) (IntKind.i64.wrap (v4 + 1)) κ1)) else κ1 (v0, v3)
def Gw28_large.f (a0 : List D) : Option Bool :=
  Gw28_large.l58 NN a0 0 0 (fun y1 => some ((decide ((y1.1.length : Int) > 200)) || (decide (y1.2 > 600000))))
def Gw28_large.pk : List FK := [.sl 43]
def Gw28_large.rk : List FK := [.bool]
def Gw28_large.g : Tp Gw28_large.pk → Option (Tp Gw28_large.rk) := fun x => Gw28_large.f x
def Gw28_large.ρ : List (Entry (Tp Gw28_large.rk)) := []
theorem Gw28_large.hρ : ∀ e ∈ Gw28_large.ρ, EntryOk Tryd.prog e :=
  ents_nil
def Gw28_large.fr58 : Fr := [(0, .sl 43), (3, .int .i64), (4, .int .i64)]
def Gw28_large.ou58 : Outs := [(1, [(0, .sl 43), (3, .int .i64)])]
def Gw28_large.T58 (k : Nat) (x : Gw28_large.fr58.T) (κ : Kp (Tp Gw28_large.rk) Gw28_large.ou58) : Option (Tp Gw28_large.rk) := Gw28_large.l58 k x.1 x.2.1 x.2.2 κ.1
def Gw28_large.Λ0 : Cuts (Tp Gw28_large.rk) := cutsOf []
def Gw28_large.Λ : Cuts (Tp Gw28_large.rk) := cutsOf [(58, cut Tryd.prog Gw28_large.fr58 Gw28_large.ou58 (Gw28_large.T58 NN))]
theorem Gw28_large.c58 (A : Ks) (w0 : World) : CutOk Tryd.prog ⟨Tryd.f8.ntmps, 0, A⟩ w0 (kRet Tryd.prog Tryd.f8.results.toList Gw28_large.rk) (bodyOf Tryd.f8) 58 (cut Tryd.prog Gw28_large.fr58 Gw28_large.ou58 (Gw28_large.T58 NN)) :=
  loop_ok Gw28_large.hρ (Λ := Gw28_large.Λ0) (cuts_nil) (by kernel_rfl) (D := 64) (b := loopOf Tryd.f8 58) (by kernel_rfl) (by kernel_rfl) NN (fun x κ => by kernel_rfl) (fun k x κ => by kernel_rfl)
theorem Gw28_large.spec : Spec Tryd.prog 8 Gw28_large.pk Gw28_large.rk Gw28_large.g :=
  spec_of_body (fn := Tryd.f8) (c := bodyOf Tryd.f8) (by kernel_rfl) (by kernel_rfl) (by kernel_rfl) (by kernel_rfl) (ρ := Gw28_large.ρ) Gw28_large.hρ (Λ := Gw28_large.Λ) (fun A w0 => cuts_cons (Gw28_large.c58 A w0) (cuts_nil)) (fun x => by kernel_rfl)

/-! ### 49 bluebell/paper.latin -/
def Gpaper_latin.l58 : Nat → (List D) → Unit → Int → Int → (List D → Option ByteArray) → Option ByteArray
  | 0, _, _, _, _, _ => none
  | k + 1, v3, v8, v9, v10, κ1 =>
    bif decide (v10 < v9) then gd (inB v10 v3.length) (gd (Nat.blt v10.toNat v3.length) (bif ((decide (((rd v3 v10.toNat).int) < 33)) || (decide (((rd v3 v10.toNat).int) > 126))) then gd (inB v10 v3.length) (gd (Nat.blt v10.toNat v3.length) (Gpaper_latin.l58 k (v3.set v10.toNat (.i 32)) () v9 (IntKind.i64.wrap (v10 + 1)) κ1)) else Gpaper_latin.l58 k v3 () v9 (IntKind.i64.wrap (v10 + 1)) κ1)) else κ1 v3
def Gpaper_latin.f (a0 : ByteArray) : Option ByteArray :=
  gd (decide (a0.size ≤ maxS)) (Gpaper_latin.l58 NN (ubytes a0) () ((ubytes a0).length : Int) 0 (fun y1 => some (bstr y1)))
def Gpaper_latin.pk : List FK := [.str]
def Gpaper_latin.rk : List FK := [.str]
def Gpaper_latin.g : Tp Gpaper_latin.pk → Option (Tp Gpaper_latin.rk) := fun x => Gpaper_latin.f x
def Gpaper_latin.ρ : List (Entry (Tp Gpaper_latin.rk)) := []
theorem Gpaper_latin.hρ : ∀ e ∈ Gpaper_latin.ρ, EntryOk Tryd.prog e :=
  ents_nil
def Gpaper_latin.fr58 : Fr := [(3, .owk 5), (8, .alw 3584), (9, .int .i64), (10, .int .i64)]
def Gpaper_latin.ou58 : Outs := [(1, [(3, .owk 5)])]
def Gpaper_latin.T58 (k : Nat) (x : Gpaper_latin.fr58.T) (κ : Kp (Tp Gpaper_latin.rk) Gpaper_latin.ou58) : Option (Tp Gpaper_latin.rk) := Gpaper_latin.l58 k x.1 x.2.1 x.2.2.1 x.2.2.2 κ.1
def Gpaper_latin.Λ0 : Cuts (Tp Gpaper_latin.rk) := cutsOf []
def Gpaper_latin.Λ : Cuts (Tp Gpaper_latin.rk) := cutsOf [(58, cut Tryd.prog Gpaper_latin.fr58 Gpaper_latin.ou58 (Gpaper_latin.T58 NN))]
theorem Gpaper_latin.c58 (A : Ks) (w0 : World) : CutOk Tryd.prog ⟨Tryd.f49.ntmps, 0, A⟩ w0 (kRet Tryd.prog Tryd.f49.results.toList Gpaper_latin.rk) (bodyOf Tryd.f49) 58 (cut Tryd.prog Gpaper_latin.fr58 Gpaper_latin.ou58 (Gpaper_latin.T58 NN)) :=
  loop_ok Gpaper_latin.hρ (Λ := Gpaper_latin.Λ0) (cuts_nil) (by kernel_rfl) (D := 64) (b := loopOf Tryd.f49 58) (by kernel_rfl) (by kernel_rfl) NN (fun x κ => by kernel_rfl) (fun k x κ => by kernel_rfl)
theorem Gpaper_latin.spec : Spec Tryd.prog 49 Gpaper_latin.pk Gpaper_latin.rk Gpaper_latin.g :=
  spec_of_body (fn := Tryd.f49) (c := bodyOf Tryd.f49) (by kernel_rfl) (by kernel_rfl) (by kernel_rfl) (by kernel_rfl) (ρ := Gpaper_latin.ρ) Gpaper_latin.hρ (Λ := Gpaper_latin.Λ) (fun A w0 => cuts_cons (Gpaper_latin.c58 A w0) (cuts_nil)) (fun x => by kernel_rfl)

/-! ### 63 bluebell/paper.examined$1 -/
def Gpaper_examined_1.f (a0 : ByteArray) : Option Bool :=
  (bif (!(a0.toList == strNil.toList)) then Gpaper_latin.f a0 else some ByteArray.empty).bind fun r1 => (bif (!((a0.toList == strNil.toList) || (!(r1.toList == a0.toList)))) then Gstrings_Contains.f a0 str20 else some false).bind fun r2 => some (((a0.toList == strNil.toList) || (!(r1.toList == a0.toList))) || r2)
def Gpaper_examined_1.pk : List FK := [.str]
def Gpaper_examined_1.rk : List FK := [.bool]
def Gpaper_examined_1.g : Tp Gpaper_examined_1.pk → Option (Tp Gpaper_examined_1.rk) := fun x => Gpaper_examined_1.f x
def Gpaper_examined_1.ρ : List (Entry (Tp Gpaper_examined_1.rk)) := [entry _ Tryd.prog 49 Gpaper_latin.pk Gpaper_latin.rk Gpaper_latin.g, entry _ Tryd.prog 64 Gstrings_Contains.pk Gstrings_Contains.rk Gstrings_Contains.g]
theorem Gpaper_examined_1.hρ : ∀ e ∈ Gpaper_examined_1.ρ, EntryOk Tryd.prog e :=
  ents_cons (ent (fn := Tryd.f49) Gpaper_latin.spec (by kernel_rfl) (by kernel_rfl) (by kernel_rfl) (by kernel_rfl)) (ents_cons (ent (fn := Tryd.f64) Gstrings_Contains.spec (by kernel_rfl) (by kernel_rfl) (by kernel_rfl) (by kernel_rfl)) (ents_nil))
def Gpaper_examined_1.Λ : Cuts (Tp Gpaper_examined_1.rk) := cutsOf []
theorem Gpaper_examined_1.spec : Spec Tryd.prog 63 Gpaper_examined_1.pk Gpaper_examined_1.rk Gpaper_examined_1.g :=
  spec_of_body (fn := Tryd.f63) (c := bodyOf Tryd.f63) (by kernel_rfl) (by kernel_rfl) (by kernel_rfl) (by kernel_rfl) (ρ := Gpaper_examined_1.ρ) Gpaper_examined_1.hρ (Λ := Gpaper_examined_1.Λ) (fun A w0 => cuts_nil) (fun x => by kernel_rfl)

/-! ### (76, None, 63) slices.IndexFunc[[]string,string] -/
def Gslices_IndexFunc___string_string_63.l26 : Nat → (List D) → Unit → Int → Int → (Unit → Option Int) → Option Int
  | 0, _, _, _, _, _ => none
  | k + 1, v0, v1, v7, v8, κ1 =>
    bif decide (v8 < v7) then gd (inB v8 v0.length) ((Gpaper_examined_1.f ((rd v0 v8.toNat).str)).bind fun r1 => bif r1 then some v8 else Gslices_IndexFunc___string_string_63.l26 k v0 () v7 (IntKind.i64.wrap (v8 + 1)) κ1) else κ1 ()
def Gslices_IndexFunc___string_string_63.f (a0 : List D) (a1 : Unit) : Option Int :=
  Gslices_IndexFunc___string_string_63.l26 NN a0 () (a0.length : Int) 0 (fun y2 => some (-1))
def Gslices_IndexFunc___string_string_63.pk : List FK := [.sl 9, .fn 63]
def Gslices_IndexFunc___string_string_63.rk : List FK := [.int .i64]
def Gslices_IndexFunc___string_string_63.g : Tp Gslices_IndexFunc___string_string_63.pk → Option (Tp Gslices_IndexFunc___string_string_63.rk) := fun x => Gslices_IndexFunc___string_string_63.f x.1 x.2
def Gslices_IndexFunc___string_string_63.ρ : List (Entry (Tp Gslices_IndexFunc___string_string_63.rk)) := [entry _ Tryd.prog 63 Gpaper_examined_1.pk Gpaper_examined_1.rk Gpaper_examined_1.g]
theorem Gslices_IndexFunc___string_string_63.hρ : ∀ e ∈ Gslices_IndexFunc___string_string_63.ρ, EntryOk Tryd.prog e :=
  ents_cons (ent (fn := Tryd.f63) Gpaper_examined_1.spec (by kernel_rfl) (by kernel_rfl) (by kernel_rfl) (by kernel_rfl)) (ents_nil)
def Gslices_IndexFunc___string_string_63.fr26 : Fr := [(0, .sl 9), (1, .fn 63), (7, .int .i64), (8, .int .i64)]
def Gslices_IndexFunc___string_string_63.ou26 : Outs := [(1, [])]
def Gslices_IndexFunc___string_string_63.T26 (k : Nat) (x : Gslices_IndexFunc___string_string_63.fr26.T) (κ : Kp (Tp Gslices_IndexFunc___string_string_63.rk) Gslices_IndexFunc___string_string_63.ou26) : Option (Tp Gslices_IndexFunc___string_string_63.rk) := Gslices_IndexFunc___string_string_63.l26 k x.1 x.2.1 x.2.2.1 x.2.2.2 κ.1
def Gslices_IndexFunc___string_string_63.Λ0 : Cuts (Tp Gslices_IndexFunc___string_string_63.rk) := cutsOf []
def Gslices_IndexFunc___string_string_63.Λ : Cuts (Tp Gslices_IndexFunc___string_string_63.rk) := cutsOf [(26, cut Tryd.prog Gslices_IndexFunc___string_string_63.fr26 Gslices_IndexFunc___string_string_63.ou26 (Gslices_IndexFunc___string_string_63.T26 NN))]
theorem Gslices_IndexFunc___string_string_63.c26 (A : Ks) (w0 : World) : CutOk Tryd.prog ⟨Tryd.f76.ntmps, 0, A⟩ w0 (kRet Tryd.prog Tryd.f76.results.toList Gslices_IndexFunc___string_string_63.rk) (bodyOf Tryd.f76) 26 (cut Tryd.prog Gslices_IndexFunc___string_string_63.fr26 Gslices_IndexFunc___string_string_63.ou26 (Gslices_IndexFunc___string_string_63.T26 NN)) :=
  loop_ok Gslices_IndexFunc___string_string_63.hρ (Λ := Gslices_IndexFunc___string_string_63.Λ0) (cuts_nil) (by kernel_rfl) (D := 64) (b := loopOf Tryd.f76 26) (by kernel_rfl) (by kernel_rfl) NN (fun x κ => by kernel_rfl) (fun k x κ => by kernel_rfl)
theorem Gslices_IndexFunc___string_string_63.spec : Spec Tryd.prog 76 Gslices_IndexFunc___string_string_63.pk Gslices_IndexFunc___string_string_63.rk Gslices_IndexFunc___string_string_63.g :=
  spec_of_body (fn := Tryd.f76) (c := bodyOf Tryd.f76) (by kernel_rfl) (by kernel_rfl) (by kernel_rfl) (by kernel_rfl) (ρ := Gslices_IndexFunc___string_string_63.ρ) Gslices_IndexFunc___string_string_63.hρ (Λ := Gslices_IndexFunc___string_string_63.Λ) (fun A w0 => cuts_cons (Gslices_IndexFunc___string_string_63.c26 A w0) (cuts_nil)) (fun x => by kernel_rfl)

/-! ### (62, None, 63) slices.ContainsFunc[[]string,string] -/
def Gslices_ContainsFunc___string_string_63.f (a0 : List D) (a1 : Unit) : Option Bool :=
  (Gslices_IndexFunc___string_string_63.f a0 ()).bind fun r1 => some (decide (r1 ≥ 0))
def Gslices_ContainsFunc___string_string_63.pk : List FK := [.sl 9, .fn 63]
def Gslices_ContainsFunc___string_string_63.rk : List FK := [.bool]
def Gslices_ContainsFunc___string_string_63.g : Tp Gslices_ContainsFunc___string_string_63.pk → Option (Tp Gslices_ContainsFunc___string_string_63.rk) := fun x => Gslices_ContainsFunc___string_string_63.f x.1 x.2
def Gslices_ContainsFunc___string_string_63.ρ : List (Entry (Tp Gslices_ContainsFunc___string_string_63.rk)) := [entry _ Tryd.prog 76 Gslices_IndexFunc___string_string_63.pk Gslices_IndexFunc___string_string_63.rk Gslices_IndexFunc___string_string_63.g]
theorem Gslices_ContainsFunc___string_string_63.hρ : ∀ e ∈ Gslices_ContainsFunc___string_string_63.ρ, EntryOk Tryd.prog e :=
  ents_cons (ent (fn := Tryd.f76) Gslices_IndexFunc___string_string_63.spec (by kernel_rfl) (by kernel_rfl) (by kernel_rfl) (by kernel_rfl)) (ents_nil)
def Gslices_ContainsFunc___string_string_63.Λ : Cuts (Tp Gslices_ContainsFunc___string_string_63.rk) := cutsOf []
theorem Gslices_ContainsFunc___string_string_63.spec : Spec Tryd.prog 62 Gslices_ContainsFunc___string_string_63.pk Gslices_ContainsFunc___string_string_63.rk Gslices_ContainsFunc___string_string_63.g :=
  spec_of_body (fn := Tryd.f62) (c := bodyOf Tryd.f62) (by kernel_rfl) (by kernel_rfl) (by kernel_rfl) (by kernel_rfl) (ρ := Gslices_ContainsFunc___string_string_63.ρ) Gslices_ContainsFunc___string_string_63.hρ (Λ := Gslices_ContainsFunc___string_string_63.Λ) (fun A w0 => cuts_nil) (fun x => by kernel_rfl)

/-! ### 38 bluebell/paper.examined -/
def Gpaper_examined.f (a0 : List D) (a1 : Int) : Option Int :=
  bif ((decide (a1 < 1)) || (decide (a1 > 200))) then some 1 else (Gslices_ContainsFunc___string_string_63.f a0 ()).bind fun r1 => bif r1 then some 3 else some 0
def Gpaper_examined.pk : List FK := [.sl 9, .int .i64]
def Gpaper_examined.rk : List FK := [.int .i64]
def Gpaper_examined.g : Tp Gpaper_examined.pk → Option (Tp Gpaper_examined.rk) := fun x => Gpaper_examined.f x.1 x.2
def Gpaper_examined.ρ : List (Entry (Tp Gpaper_examined.rk)) := [entry _ Tryd.prog 62 Gslices_ContainsFunc___string_string_63.pk Gslices_ContainsFunc___string_string_63.rk Gslices_ContainsFunc___string_string_63.g]
theorem Gpaper_examined.hρ : ∀ e ∈ Gpaper_examined.ρ, EntryOk Tryd.prog e :=
  ents_cons (ent (fn := Tryd.f62) Gslices_ContainsFunc___string_string_63.spec (by kernel_rfl) (by kernel_rfl) (by kernel_rfl) (by kernel_rfl)) (ents_nil)
def Gpaper_examined.Λ : Cuts (Tp Gpaper_examined.rk) := cutsOf []
theorem Gpaper_examined.spec : Spec Tryd.prog 38 Gpaper_examined.pk Gpaper_examined.rk Gpaper_examined.g :=
  spec_of_body (fn := Tryd.f38) (c := bodyOf Tryd.f38) (by kernel_rfl) (by kernel_rfl) (by kernel_rfl) (by kernel_rfl) (ρ := Gpaper_examined.ρ) Gpaper_examined.hρ (Λ := Gpaper_examined.Λ) (fun A w0 => cuts_nil) (fun x => by kernel_rfl)

/-! ### 39 bluebell/paper.wide -/
def Gpaper_wide.f (a0 : List D) : Option Int :=
  (Gstrings_Join.f a0 str20).bind fun r1 => some (r1.size : Int)
def Gpaper_wide.pk : List FK := [.sl 9]
def Gpaper_wide.rk : List FK := [.int .i64]
def Gpaper_wide.g : Tp Gpaper_wide.pk → Option (Tp Gpaper_wide.rk) := fun x => Gpaper_wide.f x
def Gpaper_wide.ρ : List (Entry (Tp Gpaper_wide.rk)) := [entry _ Tryd.prog 40 Gstrings_Join.pk Gstrings_Join.rk Gstrings_Join.g]
theorem Gpaper_wide.hρ : ∀ e ∈ Gpaper_wide.ρ, EntryOk Tryd.prog e :=
  ents_cons (ent (fn := Tryd.f40) Gstrings_Join.spec (by kernel_rfl) (by kernel_rfl) (by kernel_rfl) (by kernel_rfl)) (ents_nil)
def Gpaper_wide.Λ : Cuts (Tp Gpaper_wide.rk) := cutsOf []
theorem Gpaper_wide.spec : Spec Tryd.prog 39 Gpaper_wide.pk Gpaper_wide.rk Gpaper_wide.g :=
  spec_of_body (fn := Tryd.f39) (c := bodyOf Tryd.f39) (by kernel_rfl) (by kernel_rfl) (by kernel_rfl) (by kernel_rfl) (ρ := Gpaper_wide.ρ) Gpaper_wide.hρ (Λ := Gpaper_wide.Λ) (fun A w0 => cuts_nil) (fun x => by kernel_rfl)

/-! ### 16 bluebell/paper.Spread -/
def Gpaper_Spread.l1018 : Nat → Int → Int → (List D) → (List D) → Int → Int → (List D → Option (ByteArray × Int)) → Option (ByteArray × Int)
  | 0, _, _, _, _, _, _, _ => none
  | k + 1, v7, v8, v9, v30, v31, v32, κ1 =>
    bif decide (v32 < v31) then gd (inB v32 v30.length) ((GBuilder_WriteString.f v9 ((rd v30 v32.toNat).str)).bind fun r3 => bif (v32 == v7) then κ1 r3.2.2 else gd (!(v7 == 0)) (gd (!(v7 == 0)) (bif decide (v32 ≥ (IntKind.i64.wrap (v7 - (v8.tmod v7)))) then (Gstrings_Repeat.f str20 (IntKind.i64.wrap ((IntKind.i64.wrap (1 + (IntKind.i64.wrap (v8.tdiv v7)))) + 1))).bind fun r4 => (GBuilder_WriteString.f r3.2.2 r4).bind fun r5 => Gpaper_Spread.l1018 k v7 v8 r5.2.2 v30 v31 (IntKind.i64.wrap (v32 + 1)) κ1 else (Gstrings_Repeat.f str20 (IntKind.i64.wrap (1 + (IntKind.i64.wrap (v8.tdiv v7))))).bind fun r6 => (GBuilder_WriteString.f r3.2.2 r6).bind fun r7 => Gpaper_Spread.l1018 k v7 v8 r7.2.2 v30 v31 (IntKind.i64.wrap (v32 + 1)) κ1))) else κ1 v9
def Gpaper_Spread.f (a0 : List D) (a1 : Int) : Option (ByteArray × Int) :=
  (Gpaper_examined.f a0 a1).bind fun r1 => bif (r1 != 0) then some (strNil, r1) else bif ((a0.length : Int) == 0) then some (strNil, 4) else (Gpaper_wide.f a0).bind fun r2 => Gpaper_Spread.l1018 NN (IntKind.i64.wrap ((a0.length : Int) - 1)) (if (IntKind.i64.wrap (a1 - r2)) > 0 then (IntKind.i64.wrap (a1 - r2)) else 0) [] a0 (a0.length : Int) 0 (fun y8 => (GBuilder_String.f y8).bind fun r9 => some (r9.1, 0))
def Gpaper_Spread.pk : List FK := [.sl 9, .int .i64]
def Gpaper_Spread.rk : List FK := [.str, .int .i64]
def Gpaper_Spread.g : Tp Gpaper_Spread.pk → Option (Tp Gpaper_Spread.rk) := fun x => Gpaper_Spread.f x.1 x.2
def Gpaper_Spread.ρ : List (Entry (Tp Gpaper_Spread.rk)) := [entry _ Tryd.prog 38 Gpaper_examined.pk Gpaper_examined.rk Gpaper_examined.g, entry _ Tryd.prog 39 Gpaper_wide.pk Gpaper_wide.rk Gpaper_wide.g, entryIO _ Tryd.prog 45 GBuilder_WriteString.pk GBuilder_WriteString.rk [0] GBuilder_WriteString.g, entry _ Tryd.prog 46 Gstrings_Repeat.pk Gstrings_Repeat.rk Gstrings_Repeat.g, entryIO _ Tryd.prog 47 GBuilder_String.pk GBuilder_String.rk [0] GBuilder_String.g]
theorem Gpaper_Spread.hρ : ∀ e ∈ Gpaper_Spread.ρ, EntryOk Tryd.prog e :=
  ents_cons (ent (fn := Tryd.f38) Gpaper_examined.spec (by kernel_rfl) (by kernel_rfl) (by kernel_rfl) (by kernel_rfl)) (ents_cons (ent (fn := Tryd.f39) Gpaper_wide.spec (by kernel_rfl) (by kernel_rfl) (by kernel_rfl) (by kernel_rfl)) (ents_cons (entIO (fn := Tryd.f45) GBuilder_WriteString.spec (by kernel_rfl) (by kernel_rfl) (by kernel_rfl) (by kernel_rfl)) (ents_cons (ent (fn := Tryd.f46) Gstrings_Repeat.spec (by kernel_rfl) (by kernel_rfl) (by kernel_rfl) (by kernel_rfl)) (ents_cons (entIO (fn := Tryd.f47) GBuilder_String.spec (by kernel_rfl) (by kernel_rfl) (by kernel_rfl) (by kernel_rfl)) (ents_nil)))))
def Gpaper_Spread.fr1018 : Fr := [(7, .int .i64), (8, .int .i64), (9, .bd 68 (.own 5)), (30, .sl 9), (31, .int .i64), (32, .int .i64)]
def Gpaper_Spread.ou1018 : Outs := [(1, [(9, .bd 68 (.own 5))])]
def Gpaper_Spread.T1018 (k : Nat) (x : Gpaper_Spread.fr1018.T) (κ : Kp (Tp Gpaper_Spread.rk) Gpaper_Spread.ou1018) : Option (Tp Gpaper_Spread.rk) := Gpaper_Spread.l1018 k x.1 x.2.1 x.2.2.1 x.2.2.2.1 x.2.2.2.2.1 x.2.2.2.2.2 κ.1
def Gpaper_Spread.Λ0 : Cuts (Tp Gpaper_Spread.rk) := cutsOf []
def Gpaper_Spread.Λ : Cuts (Tp Gpaper_Spread.rk) := cutsOf [(1018, cut Tryd.prog Gpaper_Spread.fr1018 Gpaper_Spread.ou1018 (Gpaper_Spread.T1018 NN))]
theorem Gpaper_Spread.c1018 (A : Ks) (w0 : World) : CutOk Tryd.prog ⟨Tryd.f16.ntmps, 0, A⟩ w0 (kRet Tryd.prog Tryd.f16.results.toList Gpaper_Spread.rk) (bodyOf Tryd.f16) 1018 (cut Tryd.prog Gpaper_Spread.fr1018 Gpaper_Spread.ou1018 (Gpaper_Spread.T1018 NN)) :=
  loop_ok Gpaper_Spread.hρ (Λ := Gpaper_Spread.Λ0) (cuts_nil) (by kernel_rfl) (D := 64) (b := loopOf Tryd.f16 1018) (by kernel_rfl) (by kernel_rfl) NN (fun x κ => by kernel_rfl) (fun k x κ => by kernel_rfl)
theorem Gpaper_Spread.spec : Spec Tryd.prog 16 Gpaper_Spread.pk Gpaper_Spread.rk Gpaper_Spread.g :=
  spec_of_body (fn := Tryd.f16) (c := bodyOf Tryd.f16) (by kernel_rfl) (by kernel_rfl) (by kernel_rfl) (by kernel_rfl) (ρ := Gpaper_Spread.ρ) Gpaper_Spread.hρ (Λ := Gpaper_Spread.Λ) (fun A w0 => cuts_cons (Gpaper_Spread.c1018 A w0) (cuts_nil)) (fun x => by kernel_rfl)

/-! ### 57 bluebell/paper.isName$1 -/
def Gpaper_isName_1.f (a0 : Int) : Option Bool :=
  some ((decide (a0 < 33)) || (decide (a0 > 126)))
def Gpaper_isName_1.pk : List FK := [.int .i32]
def Gpaper_isName_1.rk : List FK := [.bool]
def Gpaper_isName_1.g : Tp Gpaper_isName_1.pk → Option (Tp Gpaper_isName_1.rk) := fun x => Gpaper_isName_1.f x
def Gpaper_isName_1.ρ : List (Entry (Tp Gpaper_isName_1.rk)) := []
theorem Gpaper_isName_1.hρ : ∀ e ∈ Gpaper_isName_1.ρ, EntryOk Tryd.prog e :=
  ents_nil
def Gpaper_isName_1.Λ : Cuts (Tp Gpaper_isName_1.rk) := cutsOf []
theorem Gpaper_isName_1.spec : Spec Tryd.prog 57 Gpaper_isName_1.pk Gpaper_isName_1.rk Gpaper_isName_1.g :=
  spec_of_body (fn := Tryd.f57) (c := bodyOf Tryd.f57) (by kernel_rfl) (by kernel_rfl) (by kernel_rfl) (by kernel_rfl) (ρ := Gpaper_isName_1.ρ) Gpaper_isName_1.hρ (Λ := Gpaper_isName_1.Λ) (fun A w0 => cuts_nil) (fun x => by kernel_rfl)

/-! ### 25 bluebell/paper.isName -/
def Gpaper_isName.f (a0 : ByteArray) : Option Bool :=
  (bif ((decide ((a0.size : Int) ≥ 1)) && (decide ((a0.size : Int) ≤ 40))) then Gstrings_ContainsFunc.f a0 else some false).bind fun r1 => some (((decide ((a0.size : Int) ≥ 1)) && (decide ((a0.size : Int) ≤ 40))) && (!r1))
def Gpaper_isName.pk : List FK := [.str]
def Gpaper_isName.rk : List FK := [.bool]
def Gpaper_isName.g : Tp Gpaper_isName.pk → Option (Tp Gpaper_isName.rk) := fun x => Gpaper_isName.f x
def Gpaper_isName.ρ : List (Entry (Tp Gpaper_isName.rk)) := [entry _ Tryd.prog 56 Gstrings_ContainsFunc.pk Gstrings_ContainsFunc.rk Gstrings_ContainsFunc.g]
theorem Gpaper_isName.hρ : ∀ e ∈ Gpaper_isName.ρ, EntryOk Tryd.prog e :=
  ents_cons (ent (fn := Tryd.f56) Gstrings_ContainsFunc.spec (by kernel_rfl) (by kernel_rfl) (by kernel_rfl) (by kernel_rfl)) (ents_nil)
def Gpaper_isName.Λ : Cuts (Tp Gpaper_isName.rk) := cutsOf []
theorem Gpaper_isName.spec : Spec Tryd.prog 25 Gpaper_isName.pk Gpaper_isName.rk Gpaper_isName.g :=
  spec_of_body (fn := Tryd.f25) (c := bodyOf Tryd.f25) (by kernel_rfl) (by kernel_rfl) (by kernel_rfl) (by kernel_rfl) (ρ := Gpaper_isName.ρ) Gpaper_isName.hρ (Λ := Gpaper_isName.Λ) (fun A w0 => cuts_nil) (fun x => by kernel_rfl)

/-! ### 29 bluebell/paper.Sum -/
def Gpaper_Sum.l58 : Nat → Int → (List D) → Int → Int → (Int → Option Int) → Option Int
  | 0, _, _, _, _, _ => none
  | k + 1, v3, v6, v7, v8, κ1 =>
    bif decide (v8 < v7) then gd (inB v8 v6.length) (Gpaper_Sum.l58 k (IntKind.u32.wrap (v3 + (IntKind.u32.wrap ((IntKind.u32.wrap (IntKind.i64.wrap (v8 + 1))) * (IntKind.u32.wrap ((rd v6 v8.toNat).int)))))) v6 v7 (IntKind.i64.wrap (v8 + 1)) κ1) else κ1 v3
def Gpaper_Sum.f (a0 : List D) : Option Int :=
  Gpaper_Sum.l58 NN 0 a0 (a0.length : Int) 0 (fun y1 => some (IntKind.i64.wrap y1))
def Gpaper_Sum.pk : List FK := [.sl 5]
def Gpaper_Sum.rk : List FK := [.int .i64]
def Gpaper_Sum.g : Tp Gpaper_Sum.pk → Option (Tp Gpaper_Sum.rk) := fun x => Gpaper_Sum.f x
def Gpaper_Sum.ρ : List (Entry (Tp Gpaper_Sum.rk)) := []
theorem Gpaper_Sum.hρ : ∀ e ∈ Gpaper_Sum.ρ, EntryOk Tryd.prog e :=
  ents_nil
def Gpaper_Sum.fr58 : Fr := [(3, .int .u32), (6, .sl 5), (7, .int .i64), (8, .int .i64)]
def Gpaper_Sum.ou58 : Outs := [(1, [(3, .int .u32)])]
def Gpaper_Sum.T58 (k : Nat) (x : Gpaper_Sum.fr58.T) (κ : Kp (Tp Gpaper_Sum.rk) Gpaper_Sum.ou58) : Option (Tp Gpaper_Sum.rk) := Gpaper_Sum.l58 k x.1 x.2.1 x.2.2.1 x.2.2.2 κ.1
def Gpaper_Sum.Λ0 : Cuts (Tp Gpaper_Sum.rk) := cutsOf []
def Gpaper_Sum.Λ : Cuts (Tp Gpaper_Sum.rk) := cutsOf [(58, cut Tryd.prog Gpaper_Sum.fr58 Gpaper_Sum.ou58 (Gpaper_Sum.T58 NN))]
theorem Gpaper_Sum.c58 (A : Ks) (w0 : World) : CutOk Tryd.prog ⟨Tryd.f29.ntmps, 0, A⟩ w0 (kRet Tryd.prog Tryd.f29.results.toList Gpaper_Sum.rk) (bodyOf Tryd.f29) 58 (cut Tryd.prog Gpaper_Sum.fr58 Gpaper_Sum.ou58 (Gpaper_Sum.T58 NN)) :=
  loop_ok Gpaper_Sum.hρ (Λ := Gpaper_Sum.Λ0) (cuts_nil) (by kernel_rfl) (D := 64) (b := loopOf Tryd.f29 58) (by kernel_rfl) (by kernel_rfl) NN (fun x κ => by kernel_rfl) (fun k x κ => by kernel_rfl)
theorem Gpaper_Sum.spec : Spec Tryd.prog 29 Gpaper_Sum.pk Gpaper_Sum.rk Gpaper_Sum.g :=
  spec_of_body (fn := Tryd.f29) (c := bodyOf Tryd.f29) (by kernel_rfl) (by kernel_rfl) (by kernel_rfl) (by kernel_rfl) (ρ := Gpaper_Sum.ρ) Gpaper_Sum.hρ (Λ := Gpaper_Sum.Λ) (fun A w0 => cuts_cons (Gpaper_Sum.c58 A w0) (cuts_nil)) (fun x => by kernel_rfl)

/-! ### 28 bluebell/paper.hex -/
def Gpaper_hex.f (a0 : Int) : Option ByteArray :=
  (Gstrconv_FormatInt.f a0 16).bind fun r1 => (Gstrings_Repeat.f str30 (IntKind.i64.wrap (8 - (r1.size : Int)))).bind fun r2 => gd (decide (r2.size + r1.size ≤ maxS)) (some (r2 ++ r1))
def Gpaper_hex.pk : List FK := [.int .i64]
def Gpaper_hex.rk : List FK := [.str]
def Gpaper_hex.g : Tp Gpaper_hex.pk → Option (Tp Gpaper_hex.rk) := fun x => Gpaper_hex.f x
def Gpaper_hex.ρ : List (Entry (Tp Gpaper_hex.rk)) := [entry _ Tryd.prog 61 Gstrconv_FormatInt.pk Gstrconv_FormatInt.rk Gstrconv_FormatInt.g, entry _ Tryd.prog 46 Gstrings_Repeat.pk Gstrings_Repeat.rk Gstrings_Repeat.g]
theorem Gpaper_hex.hρ : ∀ e ∈ Gpaper_hex.ρ, EntryOk Tryd.prog e :=
  ents_cons (ent (fn := Tryd.f61) Gstrconv_FormatInt.spec (by kernel_rfl) (by kernel_rfl) (by kernel_rfl) (by kernel_rfl)) (ents_cons (ent (fn := Tryd.f46) Gstrings_Repeat.spec (by kernel_rfl) (by kernel_rfl) (by kernel_rfl) (by kernel_rfl)) (ents_nil))
def Gpaper_hex.Λ : Cuts (Tp Gpaper_hex.rk) := cutsOf []
theorem Gpaper_hex.spec : Spec Tryd.prog 28 Gpaper_hex.pk Gpaper_hex.rk Gpaper_hex.g :=
  spec_of_body (fn := Tryd.f28) (c := bodyOf Tryd.f28) (by kernel_rfl) (by kernel_rfl) (by kernel_rfl) (by kernel_rfl) (ρ := Gpaper_hex.ρ) Gpaper_hex.hρ (Λ := Gpaper_hex.Λ) (fun A w0 => cuts_nil) (fun x => by kernel_rfl)

/-! ### 10 bluebell/paper.Pack -/
def Gpaper_Pack.l58 : Nat → (List D) → (List (D × D)) → (List D) → Int → Int → (List D → Option (List D × Int)) → Option (List D × Int)
  | 0, _, _, _, _, _, _ => none
  | k + 1, v0, v4, v11, v12, v13, κ1 =>
    bif decide (v13 < v12) then gd (inB v13 v11.length) ((Gpaper_isName.f (((rd v11 v13.toNat).cell 0).str)).bind fun r1 => bif (!r1) then some ([], 220) else gd (decide ((((rd v11 v13.toNat).cell 0).str).size ≤ maxS)) (bif (mget K.str (.s (((rd v11 v13.toNat).cell 0).str)) (.b false) v4).bool then some ([], 6) else gd ((decide ((((rd v11 v13.toNat).cell 0).str).size ≤ maxS)) && Nat.blt v4.length lim) (Gpaper_Pack.l58 k v0 ((.s (((rd v11 v13.toNat).cell 0).str), .b true) :: v4) v11 v12 (IntKind.i64.wrap (v13 + 1)) κ1))) else κ1 v0
def Gpaper_Pack.l506 : Nat → (List D) → ((List D × Int × Int × Unit)) → (List D) → Int → Int → ((List D × (List D × Int × Int × Unit)) → Option (List D × Int)) → Option (List D × Int)
  | 0, _, _, _, _, _, _ => none
  | k + 1, v0, v7, v32, v33, v34, κ4 =>
    bif decide (v34 < v33) then gd (inB v34 v32.length) (gd (decide (str66696c6520.size + (((rd v32 v34.toNat).cell 0).str).size ≤ maxS)) (gd (decide ((str66696c6520 ++ (((rd v32 v34.toNat).cell 0).str)).size + str20.size ≤ maxS)) ((Gstrconv_Itoa.f ((((rd v32 v34.toNat).cell 1).list).length : Int)).bind fun r4 => gd (decide (((str66696c6520 ++ (((rd v32 v34.toNat).cell 0).str)) ++ str20).size + r4.size ≤ maxS)) (gd (decide ((((str66696c6520 ++ (((rd v32 v34.toNat).cell 0).str)) ++ str20) ++ r4).size + str20.size ≤ maxS)) ((Gpaper_Sum.f (((rd v32 v34.toNat).cell 1).list)).bind fun r5 => (Gpaper_hex.f r5).bind fun r6 => gd (decide (((((str66696c6520 ++ (((rd v32 v34.toNat).cell 0).str)) ++ str20) ++ r4) ++ str20).size + r6.size ≤ maxS)) (gd (decide ((((((str66696c6520 ++ (((rd v32 v34.toNat).cell 0).str)) ++ str20) ++ r4) ++ str20) ++ r6).size + str0a.size ≤ maxS)) ((GBuffer_WriteString.f (v7.1, v7.2.1, v7.2.2.1, ()) ((((((str66696c6520 ++ (((rd v32 v34.toNat).cell 0).str)) ++ str20) ++ r4) ++ str20) ++ r6) ++ str0a)).bind fun r7 => (GBuffer_Write.f (r7.2.2.1, r7.2.2.2.1, r7.2.2.2.2.1, ()) (((rd v32 v34.toNat).cell 1).list)).bind fun r8 => (GBuffer_WriteByte.f (r8.2.2.1, r8.2.2.2.1, r8.2.2.2.2.1, ()) 10).bind fun r9 => Gpaper_Pack.l506 k v0 (r9.2.1, r9.2.2.1, r9.2.2.2.1, ()) v32 v33 (IntKind.i64.wrap (v34 + 1)) κ4))))))) else κ4 (v0, (v7.1, v7.2.1, v7.2.2.1, ()))
def Gpaper_Pack.f (a0 : List D) : Option (List D × Int) :=
  Gpaper_Pack.l58 NN a0 ([] : List (D × D)) a0 (a0.length : Int) 0 (fun y2 => (GBuffer_WriteString.f ([], 0, 0, ()) str706b310a).bind fun r3 => Gpaper_Pack.l506 NN y2 (r3.2.2.1, r3.2.2.2.1, r3.2.2.2.2.1, ()) y2 (y2.length : Int) 0 (fun y10 => (Gstrconv_Itoa.f (y10.1.length : Int)).bind fun r11 => gd (decide (str656e6420.size + r11.size ≤ maxS)) (gd (decide ((str656e6420 ++ r11).size + str0a.size ≤ maxS)) ((GBuffer_WriteString.f (y10.2.1, y10.2.2.1, y10.2.2.2.1, ()) ((str656e6420 ++ r11) ++ str0a)).bind fun r12 => bif decide ((y10.1.length : Int) > 100) then some ([], 2) else (GBuffer_Len.f (r12.2.2.1, r12.2.2.2.1, r12.2.2.2.2.1, ())).bind fun r13 => bif decide (r13.1 > 500000) then some ([], 2) else (GBuffer_Bytes.f (r13.2.1, r13.2.2.1, r13.2.2.2.1, ())).bind fun r14 => some (r14.1, 0)))))
def Gpaper_Pack.pk : List FK := [.sl 43]
def Gpaper_Pack.rk : List FK := [.own 5, .int .i64]
def Gpaper_Pack.g : Tp Gpaper_Pack.pk → Option (Tp Gpaper_Pack.rk) := fun x => Gpaper_Pack.f x
def Gpaper_Pack.ρ : List (Entry (Tp Gpaper_Pack.rk)) := [entry _ Tryd.prog 25 Gpaper_isName.pk Gpaper_isName.rk Gpaper_isName.g, entryIO _ Tryd.prog 26 GBuffer_WriteString.pk GBuffer_WriteString.rk [0] GBuffer_WriteString.g, entry _ Tryd.prog 27 Gstrconv_Itoa.pk Gstrconv_Itoa.rk Gstrconv_Itoa.g, entry _ Tryd.prog 29 Gpaper_Sum.pk Gpaper_Sum.rk Gpaper_Sum.g, entry _ Tryd.prog 28 Gpaper_hex.pk Gpaper_hex.rk Gpaper_hex.g, entryIO _ Tryd.prog 30 GBuffer_Write.pk GBuffer_Write.rk [0] GBuffer_Write.g, entryIO _ Tryd.prog 31 GBuffer_WriteByte.pk GBuffer_WriteByte.rk [0] GBuffer_WriteByte.g, entryIO _ Tryd.prog 32 GBuffer_Len.pk GBuffer_Len.rk [0] GBuffer_Len.g, entryIO _ Tryd.prog 33 GBuffer_Bytes.pk GBuffer_Bytes.rk [0] GBuffer_Bytes.g]
theorem Gpaper_Pack.hρ : ∀ e ∈ Gpaper_Pack.ρ, EntryOk Tryd.prog e :=
  ents_cons (ent (fn := Tryd.f25) Gpaper_isName.spec (by kernel_rfl) (by kernel_rfl) (by kernel_rfl) (by kernel_rfl)) (ents_cons (entIO (fn := Tryd.f26) GBuffer_WriteString.spec (by kernel_rfl) (by kernel_rfl) (by kernel_rfl) (by kernel_rfl)) (ents_cons (ent (fn := Tryd.f27) Gstrconv_Itoa.spec (by kernel_rfl) (by kernel_rfl) (by kernel_rfl) (by kernel_rfl)) (ents_cons (ent (fn := Tryd.f29) Gpaper_Sum.spec (by kernel_rfl) (by kernel_rfl) (by kernel_rfl) (by kernel_rfl)) (ents_cons (ent (fn := Tryd.f28) Gpaper_hex.spec (by kernel_rfl) (by kernel_rfl) (by kernel_rfl) (by kernel_rfl)) (ents_cons (entIO (fn := Tryd.f30) GBuffer_Write.spec (by kernel_rfl) (by kernel_rfl) (by kernel_rfl) (by kernel_rfl)) (ents_cons (entIO (fn := Tryd.f31) GBuffer_WriteByte.spec (by kernel_rfl) (by kernel_rfl) (by kernel_rfl) (by kernel_rfl)) (ents_cons (entIO (fn := Tryd.f32) GBuffer_Len.spec (by kernel_rfl) (by kernel_rfl) (by kernel_rfl) (by kernel_rfl)) (ents_cons (entIO (fn := Tryd.f33) GBuffer_Bytes.spec (by kernel_rfl) (by kernel_rfl) (by kernel_rfl) (by kernel_rfl)) (ents_nil)))))))))
def Gpaper_Pack.fr58 : Fr := [(0, .sl 43), (4, .mp 9 4), (11, .sl 43), (12, .int .i64), (13, .int .i64)]
def Gpaper_Pack.ou58 : Outs := [(1, [(0, .sl 43)])]
def Gpaper_Pack.T58 (k : Nat) (x : Gpaper_Pack.fr58.T) (κ : Kp (Tp Gpaper_Pack.rk) Gpaper_Pack.ou58) : Option (Tp Gpaper_Pack.rk) := Gpaper_Pack.l58 k x.1 x.2.1 x.2.2.1 x.2.2.2.1 x.2.2.2.2 κ.1
def Gpaper_Pack.fr506 : Fr := [(0, .sl 43), (7, .bx (.cn (.own 5) (.cn (.int .i64) (.cn (.int .i8) (.ce))))), (32, .sl 43), (33, .int .i64), (34, .int .i64)]
def Gpaper_Pack.ou506 : Outs := [(4, [(0, .sl 43), (7, .bx (.cn (.own 5) (.cn (.int .i64) (.cn (.int .i8) (.ce)))))])]
def Gpaper_Pack.T506 (k : Nat) (x : Gpaper_Pack.fr506.T) (κ : Kp (Tp Gpaper_Pack.rk) Gpaper_Pack.ou506) : Option (Tp Gpaper_Pack.rk) := Gpaper_Pack.l506 k x.1 x.2.1 x.2.2.1 x.2.2.2.1 x.2.2.2.2 κ.1
def Gpaper_Pack.Λ0 : Cuts (Tp Gpaper_Pack.rk) := cutsOf []
def Gpaper_Pack.Λ1 : Cuts (Tp Gpaper_Pack.rk) := cutsOf [(58, cut Tryd.prog Gpaper_Pack.fr58 Gpaper_Pack.ou58 (Gpaper_Pack.T58 NN))]
def Gpaper_Pack.Λ : Cuts (Tp Gpaper_Pack.rk) := cutsOf [(506, cut Tryd.prog Gpaper_Pack.fr506 Gpaper_Pack.ou506 (Gpaper_Pack.T506 NN)), (58, cut Tryd.prog Gpaper_Pack.fr58 Gpaper_Pack.ou58 (Gpaper_Pack.T58 NN))]
theorem Gpaper_Pack.c58 (A : Ks) (w0 : World) : CutOk Tryd.prog ⟨Tryd.f10.ntmps, 0, A⟩ w0 (kRet Tryd.prog Tryd.f10.results.toList Gpaper_Pack.rk) (bodyOf Tryd.f10) 58 (cut Tryd.prog Gpaper_Pack.fr58 Gpaper_Pack.ou58 (Gpaper_Pack.T58 NN)) :=
  loop_ok Gpaper_Pack.hρ (Λ := Gpaper_Pack.Λ0) (cuts_nil) (by kernel_rfl) (D := 64) (b := loopOf Tryd.f10 58) (by kernel_rfl) (by kernel_rfl) NN (fun x κ => by kernel_rfl) (fun k x κ => by kernel_rfl)
theorem Gpaper_Pack.c506 (A : Ks) (w0 : World) : CutOk Tryd.prog ⟨Tryd.f10.ntmps, 0, A⟩ w0 (kRet Tryd.prog Tryd.f10.results.toList Gpaper_Pack.rk) (bodyOf Tryd.f10) 506 (cut Tryd.prog Gpaper_Pack.fr506 Gpaper_Pack.ou506 (Gpaper_Pack.T506 NN)) :=
  loop_ok Gpaper_Pack.hρ (Λ := Gpaper_Pack.Λ1) (cuts_cons (Gpaper_Pack.c58 A w0) (cuts_nil)) (by kernel_rfl) (D := 64) (b := loopOf Tryd.f10 506) (by kernel_rfl) (by kernel_rfl) NN (fun x κ => by kernel_rfl) (fun k x κ => by kernel_rfl)
theorem Gpaper_Pack.spec : Spec Tryd.prog 10 Gpaper_Pack.pk Gpaper_Pack.rk Gpaper_Pack.g :=
  spec_of_body (fn := Tryd.f10) (c := bodyOf Tryd.f10) (by kernel_rfl) (by kernel_rfl) (by kernel_rfl) (by kernel_rfl) (ρ := Gpaper_Pack.ρ) Gpaper_Pack.hρ (Λ := Gpaper_Pack.Λ) (fun A w0 => cuts_cons (Gpaper_Pack.c506 A w0) (cuts_cons (Gpaper_Pack.c58 A w0) (cuts_nil))) (fun x => by kernel_rfl)

/-! ### 9 bluebell/bluebelllaw28.awake -/
def Gw28_awake.f : Option Bool :=
  (Gpaper_Spread.f ([.s str61, .s str62, .s str63] : List D) 8).bind fun r1 => (Gpaper_Pack.f []).bind fun r2 => some (((((r1.2 == 0) && (r2.2 == 0)) && (r1.1.toList == str6120206220202063.toList)) && ((r1.1.size : Int) == 8)) && ((bstr r2.1).toList == str706b310a656e6420300a.toList))
def Gw28_awake.pk : List FK := []
def Gw28_awake.rk : List FK := [.bool]
def Gw28_awake.g : Tp Gw28_awake.pk → Option (Tp Gw28_awake.rk) := fun _ => Gw28_awake.f
def Gw28_awake.ρ : List (Entry (Tp Gw28_awake.rk)) := [entry _ Tryd.prog 16 Gpaper_Spread.pk Gpaper_Spread.rk Gpaper_Spread.g, entry _ Tryd.prog 10 Gpaper_Pack.pk Gpaper_Pack.rk Gpaper_Pack.g]
theorem Gw28_awake.hρ : ∀ e ∈ Gw28_awake.ρ, EntryOk Tryd.prog e :=
  ents_cons (ent (fn := Tryd.f16) Gpaper_Spread.spec (by kernel_rfl) (by kernel_rfl) (by kernel_rfl) (by kernel_rfl)) (ents_cons (ent (fn := Tryd.f10) Gpaper_Pack.spec (by kernel_rfl) (by kernel_rfl) (by kernel_rfl) (by kernel_rfl)) (ents_nil))
def Gw28_awake.Λ : Cuts (Tp Gw28_awake.rk) := cutsOf []
theorem Gw28_awake.spec : Spec Tryd.prog 9 Gw28_awake.pk Gw28_awake.rk Gw28_awake.g :=
  spec_of_body (fn := Tryd.f9) (c := bodyOf Tryd.f9) (by kernel_rfl) (by kernel_rfl) (by kernel_rfl) (by kernel_rfl) (ρ := Gw28_awake.ρ) Gw28_awake.hρ (Λ := Gw28_awake.Λ) (fun A w0 => cuts_nil) (fun x => by kernel_rfl)

/-! ### 51 bluebell/bluebellref28.isWord -/
def Gr28_isWord.f (a0 : Int) : Option Bool :=
  some ((decide (a0 ≥ 33)) && (decide (a0 ≤ 126)))
def Gr28_isWord.pk : List FK := [.int .u8]
def Gr28_isWord.rk : List FK := [.bool]
def Gr28_isWord.g : Tp Gr28_isWord.pk → Option (Tp Gr28_isWord.rk) := fun x => Gr28_isWord.f x
def Gr28_isWord.ρ : List (Entry (Tp Gr28_isWord.rk)) := []
theorem Gr28_isWord.hρ : ∀ e ∈ Gr28_isWord.ρ, EntryOk Tryd.prog e :=
  ents_nil
def Gr28_isWord.Λ : Cuts (Tp Gr28_isWord.rk) := cutsOf []
theorem Gr28_isWord.spec : Spec Tryd.prog 51 Gr28_isWord.pk Gr28_isWord.rk Gr28_isWord.g :=
  spec_of_body (fn := Tryd.f51) (c := bodyOf Tryd.f51) (by kernel_rfl) (by kernel_rfl) (by kernel_rfl) (by kernel_rfl) (ρ := Gr28_isWord.ρ) Gr28_isWord.hρ (Λ := Gr28_isWord.Λ) (fun A w0 => cuts_nil) (fun x => by kernel_rfl)

/-! ### 34 bluebell/bluebellref28.isName -/
def Gr28_isName.l26 : Nat → ByteArray → Int → (ByteArray → Option Bool) → Option Bool
  | 0, _, _, _ => none
  | k + 1, v0, v3, κ1 =>
    bif decide (v3 < (v0.size : Int)) then gd (inB v3 v0.size) ((Gr28_isWord.f (bt v0 v3.toNat)).bind fun r1 => bif (!r1) then some false else Gr28_isName.l26 k v0 (IntKind.i64.wrap (v3 + 1)) κ1) else κ1 v0
def Gr28_isName.f (a0 : ByteArray) : Option Bool :=
  Gr28_isName.l26 NN a0 0 (fun y2 => some ((decide ((y2.size : Int) ≥ 1)) && (decide ((y2.size : Int) ≤ 40))))
def Gr28_isName.pk : List FK := [.str]
def Gr28_isName.rk : List FK := [.bool]
def Gr28_isName.g : Tp Gr28_isName.pk → Option (Tp Gr28_isName.rk) := fun x => Gr28_isName.f x
def Gr28_isName.ρ : List (Entry (Tp Gr28_isName.rk)) := [entry _ Tryd.prog 51 Gr28_isWord.pk Gr28_isWord.rk Gr28_isWord.g]
theorem Gr28_isName.hρ : ∀ e ∈ Gr28_isName.ρ, EntryOk Tryd.prog e :=
  ents_cons (ent (fn := Tryd.f51) Gr28_isWord.spec (by kernel_rfl) (by kernel_rfl) (by kernel_rfl) (by kernel_rfl)) (ents_nil)
def Gr28_isName.fr26 : Fr := [(0, .str), (3, .int .i64)]
def Gr28_isName.ou26 : Outs := [(1, [(0, .str)])]
def Gr28_isName.T26 (k : Nat) (x : Gr28_isName.fr26.T) (κ : Kp (Tp Gr28_isName.rk) Gr28_isName.ou26) : Option (Tp Gr28_isName.rk) := Gr28_isName.l26 k x.1 x.2 κ.1
def Gr28_isName.Λ0 : Cuts (Tp Gr28_isName.rk) := cutsOf []
def Gr28_isName.Λ : Cuts (Tp Gr28_isName.rk) := cutsOf [(26, cut Tryd.prog Gr28_isName.fr26 Gr28_isName.ou26 (Gr28_isName.T26 NN))]
theorem Gr28_isName.c26 (A : Ks) (w0 : World) : CutOk Tryd.prog ⟨Tryd.f34.ntmps, 0, A⟩ w0 (kRet Tryd.prog Tryd.f34.results.toList Gr28_isName.rk) (bodyOf Tryd.f34) 26 (cut Tryd.prog Gr28_isName.fr26 Gr28_isName.ou26 (Gr28_isName.T26 NN)) :=
  loop_ok Gr28_isName.hρ (Λ := Gr28_isName.Λ0) (cuts_nil) (by kernel_rfl) (D := 64) (b := loopOf Tryd.f34 26) (by kernel_rfl) (by kernel_rfl) NN (fun x κ => by kernel_rfl) (fun k x κ => by kernel_rfl)
theorem Gr28_isName.spec : Spec Tryd.prog 34 Gr28_isName.pk Gr28_isName.rk Gr28_isName.g :=
  spec_of_body (fn := Tryd.f34) (c := bodyOf Tryd.f34) (by kernel_rfl) (by kernel_rfl) (by kernel_rfl) (by kernel_rfl) (ρ := Gr28_isName.ρ) Gr28_isName.hρ (Λ := Gr28_isName.Λ) (fun A w0 => cuts_cons (Gr28_isName.c26 A w0) (cuts_nil)) (fun x => by kernel_rfl)

/-! ### 35 bluebell/bluebellref28.digits -/
def Gr28_digits.pk : List FK := [.int .i64]
def Gr28_digits.rk : List FK := [.str]
abbrev Gr28_digits_S.RT : Type := (Tp Gr28_digits.pk → Option (Tp Gr28_digits.rk))
def Gr28_digits_S.Ok (R : Gr28_digits_S.RT) : Prop := Spec Tryd.prog 35 Gr28_digits.pk Gr28_digits.rk R
def Gr28_digits.f (R : Gr28_digits_S.RT) (a0 : Int) : Option ByteArray :=
  bif decide (a0 < 10) then gd (decide (0 ≤ a0) && (decide (a0 ≤ (IntKind.i64.wrap (a0 + 1))) && decide ((IntKind.i64.wrap (a0 + 1)) ≤ (str30313233343536373839.size : Int)))) (some (str30313233343536373839.extract a0.toNat (IntKind.i64.wrap (a0 + 1)).toNat)) else gd (!(10 == 0)) (Option.bind (α := ByteArray) (R (IntKind.i64.wrap (a0.tdiv 10))) fun r1 => gd (!(10 == 0)) (Option.bind (α := ByteArray) (R (a0.tmod 10)) fun r2 => gd (decide (r1.size + r2.size ≤ maxS)) (some (r1 ++ r2))))
def Gr28_digits.g (R : Gr28_digits_S.RT) : Tp Gr28_digits.pk → Option (Tp Gr28_digits.rk) := fun x => (Gr28_digits.f R) x
def Gr28_digits.ρ (R : Gr28_digits_S.RT) : List (Entry (Tp Gr28_digits.rk)) := [entry _ Tryd.prog 35 Gr28_digits.pk Gr28_digits.rk R]
theorem Gr28_digits.hρ (R : Gr28_digits_S.RT) (hR : Gr28_digits_S.Ok R) : ∀ e ∈ (Gr28_digits.ρ R), EntryOk Tryd.prog e :=
  ents_cons (ent (fn := Tryd.f35) hR (by kernel_rfl) (by kernel_rfl) (by kernel_rfl) (by kernel_rfl)) (ents_nil)
def Gr28_digits.Λ (R : Gr28_digits_S.RT) : Cuts (Tp Gr28_digits.rk) := cutsOf []
theorem Gr28_digits.spec (R : Gr28_digits_S.RT) (hR : Gr28_digits_S.Ok R) : Spec Tryd.prog 35 Gr28_digits.pk Gr28_digits.rk (Gr28_digits.g R) :=
  spec_of_body (fn := Tryd.f35) (c := bodyOf Tryd.f35) (by kernel_rfl) (by kernel_rfl) (by kernel_rfl) (by kernel_rfl) (ρ := (Gr28_digits.ρ R)) (Gr28_digits.hρ R hR) (Λ := (Gr28_digits.Λ R)) (fun A w0 => cuts_nil) (fun x => by kernel_rfl)
def Gr28_digits_S.rec : Nat → Gr28_digits_S.RT
  | 0 => fun _ => none
  | k + 1 => Gr28_digits.g (Gr28_digits_S.rec k)
theorem Gr28_digits_S.ok : ∀ k, Gr28_digits_S.Ok (Gr28_digits_S.rec k)
  | 0 => fun x y h => nomatch h
  | k + 1 => Gr28_digits.spec _ (Gr28_digits_S.ok k)
def Gr28_digits.F : Tp Gr28_digits.pk → Option (Tp Gr28_digits.rk) := (Gr28_digits_S.rec NN)
theorem Gr28_digits.Spec : Spec Tryd.prog 35 Gr28_digits.pk Gr28_digits.rk Gr28_digits.F := (Gr28_digits_S.ok NN)

/-! ### 37 bluebell/bluebellref10.Sum -/
def Gr10_Sum.l58 : Nat → (List D) → Int → Int → (Int → Option Int) → Option Int
  | 0, _, _, _, _ => none
  | k + 1, v0, v3, v4, κ1 =>
    bif decide (v4 < (v0.length : Int)) then gd (inB v4 v0.length) (Gr10_Sum.l58 k v0 (IntKind.i64.wrap ((BitVec.ofInt (IntKind.i64).bits (IntKind.i64.wrap (v3 + (IntKind.i64.wrap ((IntKind.i64.wrap (v4 + 1)) * (IntKind.i64.wrap ((rd v0 v4.toNat).int)))))) &&& BitVec.ofInt (IntKind.i64).bits 4294967295).toNat : Int)) (IntKind.i64.wrap (v4 + 1)) κ1) else κ1 v3
def Gr10_Sum.f (a0 : List D) : Option Int :=
  Gr10_Sum.l58 NN a0 0 0 (fun y1 => some y1)
def Gr10_Sum.pk : List FK := [.sl 5]
def Gr10_Sum.rk : List FK := [.int .i64]
def Gr10_Sum.g : Tp Gr10_Sum.pk → Option (Tp Gr10_Sum.rk) := fun x => Gr10_Sum.f x
def Gr10_Sum.ρ : List (Entry (Tp Gr10_Sum.rk)) := []
theorem Gr10_Sum.hρ : ∀ e ∈ Gr10_Sum.ρ, EntryOk Tryd.prog e :=
  ents_nil
def Gr10_Sum.fr58 : Fr := [(0, .sl 5), (3, .int .i64), (4, .int .i64)]
def Gr10_Sum.ou58 : Outs := [(1, [(3, .int .i64)])]
def Gr10_Sum.T58 (k : Nat) (x : Gr10_Sum.fr58.T) (κ : Kp (Tp Gr10_Sum.rk) Gr10_Sum.ou58) : Option (Tp Gr10_Sum.rk) := Gr10_Sum.l58 k x.1 x.2.1 x.2.2 κ.1
def Gr10_Sum.Λ0 : Cuts (Tp Gr10_Sum.rk) := cutsOf []
def Gr10_Sum.Λ : Cuts (Tp Gr10_Sum.rk) := cutsOf [(58, cut Tryd.prog Gr10_Sum.fr58 Gr10_Sum.ou58 (Gr10_Sum.T58 NN))]
theorem Gr10_Sum.c58 (A : Ks) (w0 : World) : CutOk Tryd.prog ⟨Tryd.f37.ntmps, 0, A⟩ w0 (kRet Tryd.prog Tryd.f37.results.toList Gr10_Sum.rk) (bodyOf Tryd.f37) 58 (cut Tryd.prog Gr10_Sum.fr58 Gr10_Sum.ou58 (Gr10_Sum.T58 NN)) :=
  loop_ok Gr10_Sum.hρ (Λ := Gr10_Sum.Λ0) (cuts_nil) (by kernel_rfl) (D := 64) (b := loopOf Tryd.f37 58) (by kernel_rfl) (by kernel_rfl) NN (fun x κ => by kernel_rfl) (fun k x κ => by kernel_rfl)
theorem Gr10_Sum.spec : Spec Tryd.prog 37 Gr10_Sum.pk Gr10_Sum.rk Gr10_Sum.g :=
  spec_of_body (fn := Tryd.f37) (c := bodyOf Tryd.f37) (by kernel_rfl) (by kernel_rfl) (by kernel_rfl) (by kernel_rfl) (ρ := Gr10_Sum.ρ) Gr10_Sum.hρ (Λ := Gr10_Sum.Λ) (fun A w0 => cuts_cons (Gr10_Sum.c58 A w0) (cuts_nil)) (fun x => by kernel_rfl)

/-! ### 36 bluebell/bluebellref28.hex -/
def Gr28_hex.l58 : Nat → Int → ByteArray → Int → (ByteArray → Option ByteArray) → Option ByteArray
  | 0, _, _, _, _ => none
  | k + 1, v0, v3, v4, κ1 =>
    bif decide (v4 < 8) then gd (!(16 == 0)) (gd (inB (v0.tmod 16) str30313233343536373839616263646566.size) (gd (decide ((bstr ([.i (bt str30313233343536373839616263646566 (v0.tmod 16).toNat)] : List D)).size + v3.size ≤ maxS)) (gd (!(16 == 0)) (Gr28_hex.l58 k (IntKind.i64.wrap (v0.tdiv 16)) ((bstr ([.i (bt str30313233343536373839616263646566 (v0.tmod 16).toNat)] : List D)) ++ v3) (IntKind.i64.wrap (v4 + 1)) κ1)))) else κ1 v3
def Gr28_hex.f (a0 : Int) : Option ByteArray :=
  Gr28_hex.l58 NN a0 strNil 0 (fun y1 => some y1)
def Gr28_hex.pk : List FK := [.int .i64]
def Gr28_hex.rk : List FK := [.str]
def Gr28_hex.g : Tp Gr28_hex.pk → Option (Tp Gr28_hex.rk) := fun x => Gr28_hex.f x
def Gr28_hex.ρ : List (Entry (Tp Gr28_hex.rk)) := []
theorem Gr28_hex.hρ : ∀ e ∈ Gr28_hex.ρ, EntryOk Tryd.prog e :=
  ents_nil
def Gr28_hex.fr58 : Fr := [(0, .int .i64), (3, .str), (4, .int .i64)]
def Gr28_hex.ou58 : Outs := [(1, [(3, .str)])]
def Gr28_hex.T58 (k : Nat) (x : Gr28_hex.fr58.T) (κ : Kp (Tp Gr28_hex.rk) Gr28_hex.ou58) : Option (Tp Gr28_hex.rk) := Gr28_hex.l58 k x.1 x.2.1 x.2.2 κ.1
def Gr28_hex.Λ0 : Cuts (Tp Gr28_hex.rk) := cutsOf []
def Gr28_hex.Λ : Cuts (Tp Gr28_hex.rk) := cutsOf [(58, cut Tryd.prog Gr28_hex.fr58 Gr28_hex.ou58 (Gr28_hex.T58 NN))]
theorem Gr28_hex.c58 (A : Ks) (w0 : World) : CutOk Tryd.prog ⟨Tryd.f36.ntmps, 0, A⟩ w0 (kRet Tryd.prog Tryd.f36.results.toList Gr28_hex.rk) (bodyOf Tryd.f36) 58 (cut Tryd.prog Gr28_hex.fr58 Gr28_hex.ou58 (Gr28_hex.T58 NN)) :=
  loop_ok Gr28_hex.hρ (Λ := Gr28_hex.Λ0) (cuts_nil) (by kernel_rfl) (D := 64) (b := loopOf Tryd.f36 58) (by kernel_rfl) (by kernel_rfl) NN (fun x κ => by kernel_rfl) (fun k x κ => by kernel_rfl)
theorem Gr28_hex.spec : Spec Tryd.prog 36 Gr28_hex.pk Gr28_hex.rk Gr28_hex.g :=
  spec_of_body (fn := Tryd.f36) (c := bodyOf Tryd.f36) (by kernel_rfl) (by kernel_rfl) (by kernel_rfl) (by kernel_rfl) (ρ := Gr28_hex.ρ) Gr28_hex.hρ (Λ := Gr28_hex.Λ) (fun A w0 => cuts_cons (Gr28_hex.c58 A w0) (cuts_nil)) (fun x => by kernel_rfl)

/-! ### 11 bluebell/bluebellref28.Pack -/
def Gr28_Pack.l29850 : Nat → (List D) → (List D) → Int → D → Int → ((List D × List D × Int × D) → Option (List D × Int)) → Option (List D × Int)
  | 0, _, _, _, _, _, _ => none
  | k + 1, v0, v4, v5, v6, v7, κ3 =>
    bif decide (v7 < v5) then gd (inB v7 v0.length) (bif ((((rd v0 v7.toNat).cell 0).str).toList == ((v6.cell 0).str).toList) then some ([], 6) else Gr28_Pack.l29850 k v0 v4 v5 v6 (IntKind.i64.wrap (v7 + 1)) κ3) else κ3 (v0, v4, v5, v6)
def Gr28_Pack.l58 : Nat → (List D) → (List D) → Int → ((List D × List D) → Option (List D × Int)) → Option (List D × Int)
  | 0, _, _, _, _ => none
  | k + 1, v0, v4, v5, κ1 =>
    bif decide (v5 < (v0.length : Int)) then gd (inB v5 v0.length) ((Gr28_isName.f (((rd v0 v5.toNat).cell 0).str)).bind fun r1 => bif (!r1) then some ([], 220) else Gr28_Pack.l29850 NN v0 v4 v5 (rd v0 v5.toNat) 0 (fun y2 => gd (decide (str66696c6520.size + ((y2.2.2.2.cell 0).str).size ≤ maxS)) (gd (decide ((str66696c6520 ++ ((y2.2.2.2.cell 0).str)).size + str20.size ≤ maxS)) (Option.bind (α := ByteArray) (Gr28_digits.F (((y2.2.2.2.cell 1).list).length : Int)) fun r3 => gd (decide (((str66696c6520 ++ ((y2.2.2.2.cell 0).str)) ++ str20).size + r3.size ≤ maxS)) (gd (decide ((((str66696c6520 ++ ((y2.2.2.2.cell 0).str)) ++ str20) ++ r3).size + str20.size ≤ maxS)) ((Gr10_Sum.f ((y2.2.2.2.cell 1).list)).bind fun r4 => (Gr28_hex.f r4).bind fun r5 => gd (decide (((((str66696c6520 ++ ((y2.2.2.2.cell 0).str)) ++ str20) ++ r3) ++ str20).size + r5.size ≤ maxS)) (gd (decide ((((((str66696c6520 ++ ((y2.2.2.2.cell 0).str)) ++ str20) ++ r3) ++ str20) ++ r5).size + str0a.size ≤ maxS)) (gd (Nat.ble (y2.2.1.length + (ubytes ((((((str66696c6520 ++ ((y2.2.2.2.cell 0).str)) ++ str20) ++ r3) ++ str20) ++ r5) ++ str0a)).length) lim) (gd (Nat.ble ((y2.2.1 ++ (ubytes ((((((str66696c6520 ++ ((y2.2.2.2.cell 0).str)) ++ str20) ++ r3) ++ str20) ++ r5) ++ str0a))).length + ((y2.2.2.2.cell 1).list).length) lim) (gd (Nat.ble (((y2.2.1 ++ (ubytes ((((((str66696c6520 ++ ((y2.2.2.2.cell 0).str)) ++ str20) ++ r3) ++ str20) ++ r5) ++ str0a))) ++ ((y2.2.2.2.cell 1).list)).length + ([.i 10] : List D).length) lim) (Gr28_Pack.l58 k y2.1 (((y2.2.1 ++ (ubytes ((((((str66696c6520 ++ ((y2.2.2.2.cell 0).str)) ++ str20) ++ r3) ++ str20) ++ r5) ++ str0a))) ++ ((y2.2.2.2.cell 1).list)) ++ ([.i 10] : List D)) (IntKind.i64.wrap (y2.2.2.1 + 1)) κ1))))))))))) else κ1 (v0, v4)
def Gr28_Pack.f (a0 : List D) : Option (List D × Int) :=
  gd (Nat.blt 0 ([.i 112, .i 107, .i 49, .i 10] : List D).length) (Gr28_Pack.l58 NN a0 ([.i 112, .i 107, .i 49, .i 10] : List D) 0 (fun y6 => Option.bind (α := ByteArray) (Gr28_digits.F (y6.1.length : Int)) fun r7 => gd (decide (str656e6420.size + r7.size ≤ maxS)) (gd (decide ((str656e6420 ++ r7).size + str0a.size ≤ maxS)) (gd (Nat.ble (y6.2.length + (ubytes ((str656e6420 ++ r7) ++ str0a)).length) lim) (bif ((decide ((y6.1.length : Int) > 100)) || (decide (((y6.2 ++ (ubytes ((str656e6420 ++ r7) ++ str0a))).length : Int) > 500000))) then some ([], 2) else some ((y6.2 ++ (ubytes ((str656e6420 ++ r7) ++ str0a))), 0))))))
def Gr28_Pack.pk : List FK := [.sl 43]
def Gr28_Pack.rk : List FK := [.sl 5, .int .i64]
def Gr28_Pack.g : Tp Gr28_Pack.pk → Option (Tp Gr28_Pack.rk) := fun x => Gr28_Pack.f x
def Gr28_Pack.ρ : List (Entry (Tp Gr28_Pack.rk)) := [entry _ Tryd.prog 34 Gr28_isName.pk Gr28_isName.rk Gr28_isName.g, entry _ Tryd.prog 35 Gr28_digits.pk Gr28_digits.rk Gr28_digits.F, entry _ Tryd.prog 37 Gr10_Sum.pk Gr10_Sum.rk Gr10_Sum.g, entry _ Tryd.prog 36 Gr28_hex.pk Gr28_hex.rk Gr28_hex.g]
theorem Gr28_Pack.hρ : ∀ e ∈ Gr28_Pack.ρ, EntryOk Tryd.prog e :=
  ents_cons (ent (fn := Tryd.f34) Gr28_isName.spec (by kernel_rfl) (by kernel_rfl) (by kernel_rfl) (by kernel_rfl)) (ents_cons (ent (fn := Tryd.f35) Gr28_digits.Spec (by kernel_rfl) (by kernel_rfl) (by kernel_rfl) (by kernel_rfl)) (ents_cons (ent (fn := Tryd.f37) Gr10_Sum.spec (by kernel_rfl) (by kernel_rfl) (by kernel_rfl) (by kernel_rfl)) (ents_cons (ent (fn := Tryd.f36) Gr28_hex.spec (by kernel_rfl) (by kernel_rfl) (by kernel_rfl) (by kernel_rfl)) (ents_nil))))
def Gr28_Pack.fr29850 : Fr := [(0, .sl 43), (4, .owk 5), (5, .int .i64), (6, .bx (.st 43)), (7, .int .i64)]
def Gr28_Pack.ou29850 : Outs := [(3, [(0, .sl 43), (4, .owk 5), (5, .int .i64), (6, .bx (.st 43))])]
def Gr28_Pack.T29850 (k : Nat) (x : Gr28_Pack.fr29850.T) (κ : Kp (Tp Gr28_Pack.rk) Gr28_Pack.ou29850) : Option (Tp Gr28_Pack.rk) := Gr28_Pack.l29850 k x.1 x.2.1 x.2.2.1 x.2.2.2.1 x.2.2.2.2 κ.1
def Gr28_Pack.fr58 : Fr := [(0, .sl 43), (4, .owk 5), (5, .int .i64)]
def Gr28_Pack.ou58 : Outs := [(1, [(0, .sl 43), (4, .owk 5)])]
def Gr28_Pack.T58 (k : Nat) (x : Gr28_Pack.fr58.T) (κ : Kp (Tp Gr28_Pack.rk) Gr28_Pack.ou58) : Option (Tp Gr28_Pack.rk) := Gr28_Pack.l58 k x.1 x.2.1 x.2.2 κ.1
def Gr28_Pack.Λ0 : Cuts (Tp Gr28_Pack.rk) := cutsOf []
def Gr28_Pack.Λ1 : Cuts (Tp Gr28_Pack.rk) := cutsOf [(29850, cut Tryd.prog Gr28_Pack.fr29850 Gr28_Pack.ou29850 (Gr28_Pack.T29850 NN))]
def Gr28_Pack.Λ : Cuts (Tp Gr28_Pack.rk) := cutsOf [(58, cut Tryd.prog Gr28_Pack.fr58 Gr28_Pack.ou58 (Gr28_Pack.T58 NN)), (29850, cut Tryd.prog Gr28_Pack.fr29850 Gr28_Pack.ou29850 (Gr28_Pack.T29850 NN))]
theorem Gr28_Pack.c29850 (A : Ks) (w0 : World) : CutOk Tryd.prog ⟨Tryd.f11.ntmps, 0, A⟩ w0 (kRet Tryd.prog Tryd.f11.results.toList Gr28_Pack.rk) (bodyOf Tryd.f11) 29850 (cut Tryd.prog Gr28_Pack.fr29850 Gr28_Pack.ou29850 (Gr28_Pack.T29850 NN)) :=
  loop_ok Gr28_Pack.hρ (Λ := Gr28_Pack.Λ0) (cuts_nil) (by kernel_rfl) (D := 64) (b := loopOf Tryd.f11 29850) (by kernel_rfl) (by kernel_rfl) NN (fun x κ => by kernel_rfl) (fun k x κ => by kernel_rfl)
theorem Gr28_Pack.c58 (A : Ks) (w0 : World) : CutOk Tryd.prog ⟨Tryd.f11.ntmps, 0, A⟩ w0 (kRet Tryd.prog Tryd.f11.results.toList Gr28_Pack.rk) (bodyOf Tryd.f11) 58 (cut Tryd.prog Gr28_Pack.fr58 Gr28_Pack.ou58 (Gr28_Pack.T58 NN)) :=
  loop_ok Gr28_Pack.hρ (Λ := Gr28_Pack.Λ1) (cuts_cons (Gr28_Pack.c29850 A w0) (cuts_nil)) (by kernel_rfl) (D := 64) (b := loopOf Tryd.f11 58) (by kernel_rfl) (by kernel_rfl) NN (fun x κ => by kernel_rfl) (fun k x κ => by kernel_rfl)
theorem Gr28_Pack.spec : Spec Tryd.prog 11 Gr28_Pack.pk Gr28_Pack.rk Gr28_Pack.g :=
  spec_of_body (fn := Tryd.f11) (c := bodyOf Tryd.f11) (by kernel_rfl) (by kernel_rfl) (by kernel_rfl) (by kernel_rfl) (ρ := Gr28_Pack.ρ) Gr28_Pack.hρ (Λ := Gr28_Pack.Λ) (fun A w0 => cuts_cons (Gr28_Pack.c58 A w0) (cuts_cons (Gr28_Pack.c29850 A w0) (cuts_nil))) (fun x => by kernel_rfl)

/-! ### 12 bluebell/bluebellref00.EqBytes -/
def Gr00_EqBytes.l58 : Nat → (List D) → (List D) → Int → (Unit → Option Bool) → Option Bool
  | 0, _, _, _, _ => none
  | k + 1, v0, v1, v5, κ1 =>
    bif decide (v5 < (v0.length : Int)) then gd (inB v5 v0.length) (gd (inB v5 v1.length) (bif (((rd v0 v5.toNat).int) != ((rd v1 v5.toNat).int)) then some false else Gr00_EqBytes.l58 k v0 v1 (IntKind.i64.wrap (v5 + 1)) κ1)) else κ1 ()
def Gr00_EqBytes.f (a0 : List D) (a1 : List D) : Option Bool :=
  bif ((a0.length : Int) != (a1.length : Int)) then some false else Gr00_EqBytes.l58 NN a0 a1 0 (fun y1 => some true)
def Gr00_EqBytes.pk : List FK := [.sl 5, .sl 5]
def Gr00_EqBytes.rk : List FK := [.bool]
def Gr00_EqBytes.g : Tp Gr00_EqBytes.pk → Option (Tp Gr00_EqBytes.rk) := fun x => Gr00_EqBytes.f x.1 x.2
def Gr00_EqBytes.ρ : List (Entry (Tp Gr00_EqBytes.rk)) := []
theorem Gr00_EqBytes.hρ : ∀ e ∈ Gr00_EqBytes.ρ, EntryOk Tryd.prog e :=
  ents_nil
def Gr00_EqBytes.fr58 : Fr := [(0, .sl 5), (1, .sl 5), (5, .int .i64)]
def Gr00_EqBytes.ou58 : Outs := [(1, [])]
def Gr00_EqBytes.T58 (k : Nat) (x : Gr00_EqBytes.fr58.T) (κ : Kp (Tp Gr00_EqBytes.rk) Gr00_EqBytes.ou58) : Option (Tp Gr00_EqBytes.rk) := Gr00_EqBytes.l58 k x.1 x.2.1 x.2.2 κ.1
def Gr00_EqBytes.Λ0 : Cuts (Tp Gr00_EqBytes.rk) := cutsOf []
def Gr00_EqBytes.Λ : Cuts (Tp Gr00_EqBytes.rk) := cutsOf [(58, cut Tryd.prog Gr00_EqBytes.fr58 Gr00_EqBytes.ou58 (Gr00_EqBytes.T58 NN))]
theorem Gr00_EqBytes.c58 (A : Ks) (w0 : World) : CutOk Tryd.prog ⟨Tryd.f12.ntmps, 0, A⟩ w0 (kRet Tryd.prog Tryd.f12.results.toList Gr00_EqBytes.rk) (bodyOf Tryd.f12) 58 (cut Tryd.prog Gr00_EqBytes.fr58 Gr00_EqBytes.ou58 (Gr00_EqBytes.T58 NN)) :=
  loop_ok Gr00_EqBytes.hρ (Λ := Gr00_EqBytes.Λ0) (cuts_nil) (by kernel_rfl) (D := 64) (b := loopOf Tryd.f12 58) (by kernel_rfl) (by kernel_rfl) NN (fun x κ => by kernel_rfl) (fun k x κ => by kernel_rfl)
theorem Gr00_EqBytes.spec : Spec Tryd.prog 12 Gr00_EqBytes.pk Gr00_EqBytes.rk Gr00_EqBytes.g :=
  spec_of_body (fn := Tryd.f12) (c := bodyOf Tryd.f12) (by kernel_rfl) (by kernel_rfl) (by kernel_rfl) (by kernel_rfl) (ρ := Gr00_EqBytes.ρ) Gr00_EqBytes.hρ (Λ := Gr00_EqBytes.Λ) (fun A w0 => cuts_cons (Gr00_EqBytes.c58 A w0) (cuts_nil)) (fun x => by kernel_rfl)

/-! ### 3 bluebell/bluebelllaw28.PaperPacks -/
def Gw28_PaperPacks.f (a0 : List D) : Option Bool :=
  (Gw28_large.f a0).bind fun r1 => bif r1 then (Gw28_awake.f).bind fun r2 => some r2 else (Gpaper_Pack.f a0).bind fun r3 => (Gr28_Pack.f a0).bind fun r4 => (Gr00_EqBytes.f r3.1 r4.1).bind fun r5 => (bif (r5 && (r3.2 == r4.2)) then Gw28_awake.f else some false).bind fun r6 => some ((r5 && (r3.2 == r4.2)) && r6)
def Gw28_PaperPacks.pk : List FK := [.sl 43]
def Gw28_PaperPacks.rk : List FK := [.bool]
def Gw28_PaperPacks.g : Tp Gw28_PaperPacks.pk → Option (Tp Gw28_PaperPacks.rk) := fun x => Gw28_PaperPacks.f x
def Gw28_PaperPacks.ρ : List (Entry (Tp Gw28_PaperPacks.rk)) := [entry _ Tryd.prog 8 Gw28_large.pk Gw28_large.rk Gw28_large.g, entry _ Tryd.prog 9 Gw28_awake.pk Gw28_awake.rk Gw28_awake.g, entry _ Tryd.prog 10 Gpaper_Pack.pk Gpaper_Pack.rk Gpaper_Pack.g, entry _ Tryd.prog 11 Gr28_Pack.pk Gr28_Pack.rk Gr28_Pack.g, entry _ Tryd.prog 12 Gr00_EqBytes.pk Gr00_EqBytes.rk Gr00_EqBytes.g]
theorem Gw28_PaperPacks.hρ : ∀ e ∈ Gw28_PaperPacks.ρ, EntryOk Tryd.prog e :=
  ents_cons (ent (fn := Tryd.f8) Gw28_large.spec (by kernel_rfl) (by kernel_rfl) (by kernel_rfl) (by kernel_rfl)) (ents_cons (ent (fn := Tryd.f9) Gw28_awake.spec (by kernel_rfl) (by kernel_rfl) (by kernel_rfl) (by kernel_rfl)) (ents_cons (ent (fn := Tryd.f10) Gpaper_Pack.spec (by kernel_rfl) (by kernel_rfl) (by kernel_rfl) (by kernel_rfl)) (ents_cons (ent (fn := Tryd.f11) Gr28_Pack.spec (by kernel_rfl) (by kernel_rfl) (by kernel_rfl) (by kernel_rfl)) (ents_cons (ent (fn := Tryd.f12) Gr00_EqBytes.spec (by kernel_rfl) (by kernel_rfl) (by kernel_rfl) (by kernel_rfl)) (ents_nil)))))
def Gw28_PaperPacks.Λ : Cuts (Tp Gw28_PaperPacks.rk) := cutsOf []
theorem Gw28_PaperPacks.spec : Spec Tryd.prog 3 Gw28_PaperPacks.pk Gw28_PaperPacks.rk Gw28_PaperPacks.g :=
  spec_of_body (fn := Tryd.f3) (c := bodyOf Tryd.f3) (by kernel_rfl) (by kernel_rfl) (by kernel_rfl) (by kernel_rfl) (ρ := Gw28_PaperPacks.ρ) Gw28_PaperPacks.hρ (Λ := Gw28_PaperPacks.Λ) (fun A w0 => cuts_nil) (fun x => by kernel_rfl)

/-! ### 13 bluebell/bluebelllaw28.many -/
def Gw28_many.l58 : Nat → (List D) → Int → Int → ((List D × Int) → Option Bool) → Option Bool
  | 0, _, _, _, _ => none
  | k + 1, v0, v3, v4, κ1 =>
    bif decide (v4 < (v0.length : Int)) then gd (inB v4 v0.length) (Gw28_many.l58 k v0 (IntKind.i64.wrap (v3 + (((rd v0 v4.toNat).str).size : Int))) (IntKind.i64.wrap (v4 + 1)) κ1) else κ1 (v0, v3)
def Gw28_many.f (a0 : List D) : Option Bool :=
  Gw28_many.l58 NN a0 0 0 (fun y1 => some ((decide ((y1.1.length : Int) > 500)) || (decide (y1.2 > 5000))))
def Gw28_many.pk : List FK := [.sl 9]
def Gw28_many.rk : List FK := [.bool]
def Gw28_many.g : Tp Gw28_many.pk → Option (Tp Gw28_many.rk) := fun x => Gw28_many.f x
def Gw28_many.ρ : List (Entry (Tp Gw28_many.rk)) := []
theorem Gw28_many.hρ : ∀ e ∈ Gw28_many.ρ, EntryOk Tryd.prog e :=
  ents_nil
def Gw28_many.fr58 : Fr := [(0, .sl 9), (3, .int .i64), (4, .int .i64)]
def Gw28_many.ou58 : Outs := [(1, [(0, .sl 9), (3, .int .i64)])]
def Gw28_many.T58 (k : Nat) (x : Gw28_many.fr58.T) (κ : Kp (Tp Gw28_many.rk) Gw28_many.ou58) : Option (Tp Gw28_many.rk) := Gw28_many.l58 k x.1 x.2.1 x.2.2 κ.1
def Gw28_many.Λ0 : Cuts (Tp Gw28_many.rk) := cutsOf []
def Gw28_many.Λ : Cuts (Tp Gw28_many.rk) := cutsOf [(58, cut Tryd.prog Gw28_many.fr58 Gw28_many.ou58 (Gw28_many.T58 NN))]
theorem Gw28_many.c58 (A : Ks) (w0 : World) : CutOk Tryd.prog ⟨Tryd.f13.ntmps, 0, A⟩ w0 (kRet Tryd.prog Tryd.f13.results.toList Gw28_many.rk) (bodyOf Tryd.f13) 58 (cut Tryd.prog Gw28_many.fr58 Gw28_many.ou58 (Gw28_many.T58 NN)) :=
  loop_ok Gw28_many.hρ (Λ := Gw28_many.Λ0) (cuts_nil) (by kernel_rfl) (D := 64) (b := loopOf Tryd.f13 58) (by kernel_rfl) (by kernel_rfl) NN (fun x κ => by kernel_rfl) (fun k x κ => by kernel_rfl)
theorem Gw28_many.spec : Spec Tryd.prog 13 Gw28_many.pk Gw28_many.rk Gw28_many.g :=
  spec_of_body (fn := Tryd.f13) (c := bodyOf Tryd.f13) (by kernel_rfl) (by kernel_rfl) (by kernel_rfl) (by kernel_rfl) (ρ := Gw28_many.ρ) Gw28_many.hρ (Λ := Gw28_many.Λ) (fun A w0 => cuts_cons (Gw28_many.c58 A w0) (cuts_nil)) (fun x => by kernel_rfl)

/-! ### 14 bluebell/paper.Fill -/
def Gpaper_Fill.p512811 (v1 : Int) (v2 : Bool) (v9 : List D) (v12 : ByteArray) (v13 : ByteArray) (v20 : List D) (v21 : Int) (v22 : Int) (κ0 : (Int × Bool × List D × List D × ByteArray × List D × Int × Int) → Option (List D × Int)) : Option (List D × Int) :=
  gd (Nat.ble (v9.length + ([.s v13] : List D).length) lim) (κ0 (v1, v2, (v9 ++ ([.s v13] : List D)), [], v12, v20, v21, v22))
def Gpaper_Fill.p32051 (v1 : Int) (v2 : Bool) (v9 : List D) (v10 : List D) (v12 : ByteArray) (v20 : List D) (v21 : Int) (v22 : Int) (κ0 : (Int × Bool × List D × List D × List D × Int × Int) → Option (List D × Int)) : Option (List D × Int) :=
  gd (Nat.ble (v10.length + ([.s v12] : List D).length) lim) (κ0 (v1, v2, v9, (v10 ++ ([.s v12] : List D)), v20, v21, v22))
def Gpaper_Fill.l250 : Nat → Int → Bool → (List D) → (List D) → (List D) → Int → Int → ((List D × List D) → Option (List D × Int)) → Option (List D × Int)
  | 0, _, _, _, _, _, _, _, _ => none
  | k + 1, v1, v2, v9, v10, v20, v21, v22, κ1 =>
    bif decide (v22 < v21) then gd (inB v22 v20.length) ((bif (decide ((v10.length : Int) > 0)) then Gpaper_wide.f v10 else some 0).bind fun r2 => bif ((decide ((v10.length : Int) > 0)) && (decide ((IntKind.i64.wrap ((IntKind.i64.wrap (r2 + 1)) + (((rd v20 v22.toNat).str).size : Int))) > v1))) then (Gstrings_Join.f v10 str20).bind fun r3 => bif v2 then (Gpaper_Spread.f v10 v1).bind fun r4 => Gpaper_Fill.p512811 v1 v2 v9 ((rd v20 v22.toNat).str) r4.1 v20 v21 v22 (fun y5 => Gpaper_Fill.p32051 y5.1 y5.2.1 y5.2.2.1 y5.2.2.2.1 y5.2.2.2.2.1 y5.2.2.2.2.2.1 y5.2.2.2.2.2.2.1 y5.2.2.2.2.2.2.2 (fun y6 => Gpaper_Fill.l250 k y6.1 y6.2.1 y6.2.2.1 y6.2.2.2.1 y6.2.2.2.2.1 y6.2.2.2.2.2.1 (IntKind.i64.wrap (y6.2.2.2.2.2.2 + 1)) κ1)) else Gpaper_Fill.p512811 v1 v2 v9 ((rd v20 v22.toNat).str) r3 v20 v21 v22 (fun y7 => Gpaper_Fill.p32051 y7.1 y7.2.1 y7.2.2.1 y7.2.2.2.1 y7.2.2.2.2.1 y7.2.2.2.2.2.1 y7.2.2.2.2.2.2.1 y7.2.2.2.2.2.2.2 (fun y8 => Gpaper_Fill.l250 k y8.1 y8.2.1 y8.2.2.1 y8.2.2.2.1 y8.2.2.2.2.1 y8.2.2.2.2.2.1 (IntKind.i64.wrap (y8.2.2.2.2.2.2 + 1)) κ1)) else Gpaper_Fill.p32051 v1 v2 v9 v10 ((rd v20 v22.toNat).str) v20 v21 v22 (fun y9 => Gpaper_Fill.l250 k y9.1 y9.2.1 y9.2.2.1 y9.2.2.2.1 y9.2.2.2.2.1 y9.2.2.2.2.2.1 (IntKind.i64.wrap (y9.2.2.2.2.2.2 + 1)) κ1)) else κ1 (v9, v10)
def Gpaper_Fill.f (a0 : List D) (a1 : Int) (a2 : Bool) : Option (List D × Int) :=
  (Gpaper_examined.f a0 a1).bind fun r1 => bif (r1 != 0) then some ([], r1) else Gpaper_Fill.l250 NN a1 a2 [] [] a0 (a0.length : Int) 0 (fun y10 => bif decide ((y10.2.length : Int) > 0) then (Gstrings_Join.f y10.2 str20).bind fun r11 => gd (Nat.ble (y10.1.length + ([.s r11] : List D).length) lim) (some ((y10.1 ++ ([.s r11] : List D)), 0)) else some (y10.1, 0))
def Gpaper_Fill.pk : List FK := [.sl 9, .int .i64, .bool]
def Gpaper_Fill.rk : List FK := [.own 9, .int .i64]
def Gpaper_Fill.g : Tp Gpaper_Fill.pk → Option (Tp Gpaper_Fill.rk) := fun x => Gpaper_Fill.f x.1 x.2.1 x.2.2
def Gpaper_Fill.ρ : List (Entry (Tp Gpaper_Fill.rk)) := [entry _ Tryd.prog 38 Gpaper_examined.pk Gpaper_examined.rk Gpaper_examined.g, entry _ Tryd.prog 39 Gpaper_wide.pk Gpaper_wide.rk Gpaper_wide.g, entry _ Tryd.prog 40 Gstrings_Join.pk Gstrings_Join.rk Gstrings_Join.g, entry _ Tryd.prog 16 Gpaper_Spread.pk Gpaper_Spread.rk Gpaper_Spread.g]
theorem Gpaper_Fill.hρ : ∀ e ∈ Gpaper_Fill.ρ, EntryOk Tryd.prog e :=
  ents_cons (ent (fn := Tryd.f38) Gpaper_examined.spec (by kernel_rfl) (by kernel_rfl) (by kernel_rfl) (by kernel_rfl)) (ents_cons (ent (fn := Tryd.f39) Gpaper_wide.spec (by kernel_rfl) (by kernel_rfl) (by kernel_rfl) (by kernel_rfl)) (ents_cons (ent (fn := Tryd.f40) Gstrings_Join.spec (by kernel_rfl) (by kernel_rfl) (by kernel_rfl) (by kernel_rfl)) (ents_cons (ent (fn := Tryd.f16) Gpaper_Spread.spec (by kernel_rfl) (by kernel_rfl) (by kernel_rfl) (by kernel_rfl)) (ents_nil))))
def Gpaper_Fill.fr512811 : Fr := [(1, .int .i64), (2, .bool), (9, .own 9), (12, .str), (13, .str), (20, .sl 9), (21, .int .i64), (22, .int .i64)]
def Gpaper_Fill.ou512811 : Outs := [(0, [(1, .int .i64), (2, .bool), (9, .own 9), (10, .own 9), (12, .str), (20, .sl 9), (21, .int .i64), (22, .int .i64)])]
def Gpaper_Fill.T512811 (x : Gpaper_Fill.fr512811.T) (κ : Kp (Tp Gpaper_Fill.rk) Gpaper_Fill.ou512811) : Option (Tp Gpaper_Fill.rk) := Gpaper_Fill.p512811 x.1 x.2.1 x.2.2.1 x.2.2.2.1 x.2.2.2.2.1 x.2.2.2.2.2.1 x.2.2.2.2.2.2.1 x.2.2.2.2.2.2.2 κ.1
def Gpaper_Fill.fr32051 : Fr := [(1, .int .i64), (2, .bool), (9, .own 9), (10, .own 9), (12, .str), (20, .sl 9), (21, .int .i64), (22, .int .i64)]
def Gpaper_Fill.ou32051 : Outs := [(0, [(1, .int .i64), (2, .bool), (9, .own 9), (10, .own 9), (20, .sl 9), (21, .int .i64), (22, .int .i64)])]
def Gpaper_Fill.T32051 (x : Gpaper_Fill.fr32051.T) (κ : Kp (Tp Gpaper_Fill.rk) Gpaper_Fill.ou32051) : Option (Tp Gpaper_Fill.rk) := Gpaper_Fill.p32051 x.1 x.2.1 x.2.2.1 x.2.2.2.1 x.2.2.2.2.1 x.2.2.2.2.2.1 x.2.2.2.2.2.2.1 x.2.2.2.2.2.2.2 κ.1
def Gpaper_Fill.fr250 : Fr := [(1, .int .i64), (2, .bool), (9, .own 9), (10, .own 9), (20, .sl 9), (21, .int .i64), (22, .int .i64)]
def Gpaper_Fill.ou250 : Outs := [(1, [(9, .own 9), (10, .own 9)])]
def Gpaper_Fill.T250 (k : Nat) (x : Gpaper_Fill.fr250.T) (κ : Kp (Tp Gpaper_Fill.rk) Gpaper_Fill.ou250) : Option (Tp Gpaper_Fill.rk) := Gpaper_Fill.l250 k x.1 x.2.1 x.2.2.1 x.2.2.2.1 x.2.2.2.2.1 x.2.2.2.2.2.1 x.2.2.2.2.2.2 κ.1
def Gpaper_Fill.Λ0 : Cuts (Tp Gpaper_Fill.rk) := cutsOf []
def Gpaper_Fill.Λ1 : Cuts (Tp Gpaper_Fill.rk) := cutsOf [(512811, cut Tryd.prog Gpaper_Fill.fr512811 Gpaper_Fill.ou512811 (Gpaper_Fill.T512811))]
def Gpaper_Fill.Λ2 : Cuts (Tp Gpaper_Fill.rk) := cutsOf [(32051, cut Tryd.prog Gpaper_Fill.fr32051 Gpaper_Fill.ou32051 (Gpaper_Fill.T32051)), (512811, cut Tryd.prog Gpaper_Fill.fr512811 Gpaper_Fill.ou512811 (Gpaper_Fill.T512811))]
def Gpaper_Fill.Λ : Cuts (Tp Gpaper_Fill.rk) := cutsOf [(250, cut Tryd.prog Gpaper_Fill.fr250 Gpaper_Fill.ou250 (Gpaper_Fill.T250 NN)), (32051, cut Tryd.prog Gpaper_Fill.fr32051 Gpaper_Fill.ou32051 (Gpaper_Fill.T32051)), (512811, cut Tryd.prog Gpaper_Fill.fr512811 Gpaper_Fill.ou512811 (Gpaper_Fill.T512811))]
theorem Gpaper_Fill.c512811 (A : Ks) (w0 : World) : CutOk Tryd.prog ⟨Tryd.f14.ntmps, 0, A⟩ w0 (kRet Tryd.prog Tryd.f14.results.toList Gpaper_Fill.rk) (bodyOf Tryd.f14) 512811 (cut Tryd.prog Gpaper_Fill.fr512811 Gpaper_Fill.ou512811 (Gpaper_Fill.T512811)) :=
  cut_ok Gpaper_Fill.hρ (Λ := Gpaper_Fill.Λ0) (cuts_nil) (by kernel_rfl) (by kernel_rfl) (D := 64) (c := nodeOf Tryd.f14 512811) (by kernel_rfl) (by kernel_rfl) (fun x κ => by kernel_rfl)
theorem Gpaper_Fill.c32051 (A : Ks) (w0 : World) : CutOk Tryd.prog ⟨Tryd.f14.ntmps, 0, A⟩ w0 (kRet Tryd.prog Tryd.f14.results.toList Gpaper_Fill.rk) (bodyOf Tryd.f14) 32051 (cut Tryd.prog Gpaper_Fill.fr32051 Gpaper_Fill.ou32051 (Gpaper_Fill.T32051)) :=
  cut_ok Gpaper_Fill.hρ (Λ := Gpaper_Fill.Λ1) (cuts_cons (Gpaper_Fill.c512811 A w0) (cuts_nil)) (by kernel_rfl) (by kernel_rfl) (D := 64) (c := nodeOf Tryd.f14 32051) (by kernel_rfl) (by kernel_rfl) (fun x κ => by kernel_rfl)
theorem Gpaper_Fill.c250 (A : Ks) (w0 : World) : CutOk Tryd.prog ⟨Tryd.f14.ntmps, 0, A⟩ w0 (kRet Tryd.prog Tryd.f14.results.toList Gpaper_Fill.rk) (bodyOf Tryd.f14) 250 (cut Tryd.prog Gpaper_Fill.fr250 Gpaper_Fill.ou250 (Gpaper_Fill.T250 NN)) :=
  loop_ok Gpaper_Fill.hρ (Λ := Gpaper_Fill.Λ2) (cuts_cons (Gpaper_Fill.c32051 A w0) (cuts_cons (Gpaper_Fill.c512811 A w0) (cuts_nil))) (by kernel_rfl) (D := 64) (b := loopOf Tryd.f14 250) (by kernel_rfl) (by kernel_rfl) NN (fun x κ => by kernel_rfl) (fun k x κ => by kernel_rfl)
theorem Gpaper_Fill.spec : Spec Tryd.prog 14 Gpaper_Fill.pk Gpaper_Fill.rk Gpaper_Fill.g :=
  spec_of_body (fn := Tryd.f14) (c := bodyOf Tryd.f14) (by kernel_rfl) (by kernel_rfl) (by kernel_rfl) (by kernel_rfl) (ρ := Gpaper_Fill.ρ) Gpaper_Fill.hρ (Λ := Gpaper_Fill.Λ) (fun A w0 => cuts_cons (Gpaper_Fill.c250 A w0) (cuts_cons (Gpaper_Fill.c32051 A w0) (cuts_cons (Gpaper_Fill.c512811 A w0) (cuts_nil)))) (fun x => by kernel_rfl)

/-! ### 41 bluebell/bluebellref28.wrong -/
def Gr28_wrong.l7458 : Nat → (List D) → Int → Int → ((List D × Int) → Option Int) → Option Int
  | 0, _, _, _, _ => none
  | k + 1, v0, v5, v6, κ3 =>
    gd (inB v5 v0.length) (bif decide (v6 < (((rd v0 v5.toNat).str).size : Int)) then gd (inB v5 v0.length) (gd (inB v6 ((rd v0 v5.toNat).str).size) ((Gr28_isWord.f (bt ((rd v0 v5.toNat).str) v6.toNat)).bind fun r1 => bif (!r1) then some 3 else Gr28_wrong.l7458 k v0 v5 (IntKind.i64.wrap (v6 + 1)) κ3)) else κ3 (v0, v5))
def Gr28_wrong.l58 : Nat → (List D) → Int → (Unit → Option Int) → Option Int
  | 0, _, _, _ => none
  | k + 1, v0, v5, κ1 =>
    bif decide (v5 < (v0.length : Int)) then Gr28_wrong.l7458 NN v0 v5 0 (fun y2 => gd (inB y2.2 y2.1.length) (bif (((rd y2.1 y2.2.toNat).str).toList == strNil.toList) then some 3 else Gr28_wrong.l58 k y2.1 (IntKind.i64.wrap (y2.2 + 1)) κ1)) else κ1 ()
def Gr28_wrong.f (a0 : List D) (a1 : Int) : Option Int :=
  bif ((decide (a1 < 1)) || (decide (a1 > 200))) then some 1 else Gr28_wrong.l58 NN a0 0 (fun y3 => some 0)
def Gr28_wrong.pk : List FK := [.sl 9, .int .i64]
def Gr28_wrong.rk : List FK := [.int .i64]
def Gr28_wrong.g : Tp Gr28_wrong.pk → Option (Tp Gr28_wrong.rk) := fun x => Gr28_wrong.f x.1 x.2
def Gr28_wrong.ρ : List (Entry (Tp Gr28_wrong.rk)) := [entry _ Tryd.prog 51 Gr28_isWord.pk Gr28_isWord.rk Gr28_isWord.g]
theorem Gr28_wrong.hρ : ∀ e ∈ Gr28_wrong.ρ, EntryOk Tryd.prog e :=
  ents_cons (ent (fn := Tryd.f51) Gr28_isWord.spec (by kernel_rfl) (by kernel_rfl) (by kernel_rfl) (by kernel_rfl)) (ents_nil)
def Gr28_wrong.fr7458 : Fr := [(0, .sl 9), (5, .int .i64), (6, .int .i64)]
def Gr28_wrong.ou7458 : Outs := [(3, [(0, .sl 9), (5, .int .i64)])]
def Gr28_wrong.T7458 (k : Nat) (x : Gr28_wrong.fr7458.T) (κ : Kp (Tp Gr28_wrong.rk) Gr28_wrong.ou7458) : Option (Tp Gr28_wrong.rk) := Gr28_wrong.l7458 k x.1 x.2.1 x.2.2 κ.1
def Gr28_wrong.fr58 : Fr := [(0, .sl 9), (5, .int .i64)]
def Gr28_wrong.ou58 : Outs := [(1, [])]
def Gr28_wrong.T58 (k : Nat) (x : Gr28_wrong.fr58.T) (κ : Kp (Tp Gr28_wrong.rk) Gr28_wrong.ou58) : Option (Tp Gr28_wrong.rk) := Gr28_wrong.l58 k x.1 x.2 κ.1
def Gr28_wrong.Λ0 : Cuts (Tp Gr28_wrong.rk) := cutsOf []
def Gr28_wrong.Λ1 : Cuts (Tp Gr28_wrong.rk) := cutsOf [(7458, cut Tryd.prog Gr28_wrong.fr7458 Gr28_wrong.ou7458 (Gr28_wrong.T7458 NN))]
def Gr28_wrong.Λ : Cuts (Tp Gr28_wrong.rk) := cutsOf [(58, cut Tryd.prog Gr28_wrong.fr58 Gr28_wrong.ou58 (Gr28_wrong.T58 NN)), (7458, cut Tryd.prog Gr28_wrong.fr7458 Gr28_wrong.ou7458 (Gr28_wrong.T7458 NN))]
theorem Gr28_wrong.c7458 (A : Ks) (w0 : World) : CutOk Tryd.prog ⟨Tryd.f41.ntmps, 0, A⟩ w0 (kRet Tryd.prog Tryd.f41.results.toList Gr28_wrong.rk) (bodyOf Tryd.f41) 7458 (cut Tryd.prog Gr28_wrong.fr7458 Gr28_wrong.ou7458 (Gr28_wrong.T7458 NN)) :=
  loop_ok Gr28_wrong.hρ (Λ := Gr28_wrong.Λ0) (cuts_nil) (by kernel_rfl) (D := 64) (b := loopOf Tryd.f41 7458) (by kernel_rfl) (by kernel_rfl) NN (fun x κ => by kernel_rfl) (fun k x κ => by kernel_rfl)
theorem Gr28_wrong.c58 (A : Ks) (w0 : World) : CutOk Tryd.prog ⟨Tryd.f41.ntmps, 0, A⟩ w0 (kRet Tryd.prog Tryd.f41.results.toList Gr28_wrong.rk) (bodyOf Tryd.f41) 58 (cut Tryd.prog Gr28_wrong.fr58 Gr28_wrong.ou58 (Gr28_wrong.T58 NN)) :=
  loop_ok Gr28_wrong.hρ (Λ := Gr28_wrong.Λ1) (cuts_cons (Gr28_wrong.c7458 A w0) (cuts_nil)) (by kernel_rfl) (D := 64) (b := loopOf Tryd.f41 58) (by kernel_rfl) (by kernel_rfl) NN (fun x κ => by kernel_rfl) (fun k x κ => by kernel_rfl)
theorem Gr28_wrong.spec : Spec Tryd.prog 41 Gr28_wrong.pk Gr28_wrong.rk Gr28_wrong.g :=
  spec_of_body (fn := Tryd.f41) (c := bodyOf Tryd.f41) (by kernel_rfl) (by kernel_rfl) (by kernel_rfl) (by kernel_rfl) (ρ := Gr28_wrong.ρ) Gr28_wrong.hρ (Λ := Gr28_wrong.Λ) (fun A w0 => cuts_cons (Gr28_wrong.c58 A w0) (cuts_cons (Gr28_wrong.c7458 A w0) (cuts_nil))) (fun x => by kernel_rfl)

/-! ### 44 bluebell/bluebellref28.joined -/
def Gr28_joined.p1865 (v0 : List D) (v3 : ByteArray) (v4 : Int) (κ0 : (List D × ByteArray × Int) → Option ByteArray) : Option ByteArray :=
  gd (inB v4 v0.length) (gd (decide (v3.size + ((rd v0 v4.toNat).str).size ≤ maxS)) (κ0 (v0, (v3 ++ ((rd v0 v4.toNat).str)), v4)))
def Gr28_joined.l58 : Nat → (List D) → ByteArray → Int → (ByteArray → Option ByteArray) → Option ByteArray
  | 0, _, _, _, _ => none
  | k + 1, v0, v3, v4, κ1 =>
    bif decide (v4 < (v0.length : Int)) then bif decide (v4 > 0) then gd (decide (v3.size + str20.size ≤ maxS)) (Gr28_joined.p1865 v0 (v3 ++ str20) v4 (fun y1 => Gr28_joined.l58 k y1.1 y1.2.1 (IntKind.i64.wrap (y1.2.2 + 1)) κ1)) else Gr28_joined.p1865 v0 v3 v4 (fun y2 => Gr28_joined.l58 k y2.1 y2.2.1 (IntKind.i64.wrap (y2.2.2 + 1)) κ1) else κ1 v3
def Gr28_joined.f (a0 : List D) : Option ByteArray :=
  Gr28_joined.l58 NN a0 strNil 0 (fun y3 => some y3)
def Gr28_joined.pk : List FK := [.sl 9]
def Gr28_joined.rk : List FK := [.str]
def Gr28_joined.g : Tp Gr28_joined.pk → Option (Tp Gr28_joined.rk) := fun x => Gr28_joined.f x
def Gr28_joined.ρ : List (Entry (Tp Gr28_joined.rk)) := []
theorem Gr28_joined.hρ : ∀ e ∈ Gr28_joined.ρ, EntryOk Tryd.prog e :=
  ents_nil
def Gr28_joined.fr1865 : Fr := [(0, .sl 9), (3, .str), (4, .int .i64)]
def Gr28_joined.ou1865 : Outs := [(0, [(0, .sl 9), (3, .str), (4, .int .i64)])]
def Gr28_joined.T1865 (x : Gr28_joined.fr1865.T) (κ : Kp (Tp Gr28_joined.rk) Gr28_joined.ou1865) : Option (Tp Gr28_joined.rk) := Gr28_joined.p1865 x.1 x.2.1 x.2.2 κ.1
def Gr28_joined.fr58 : Fr := [(0, .sl 9), (3, .str), (4, .int .i64)]
def Gr28_joined.ou58 : Outs := [(1, [(3, .str)])]
def Gr28_joined.T58 (k : Nat) (x : Gr28_joined.fr58.T) (κ : Kp (Tp Gr28_joined.rk) Gr28_joined.ou58) : Option (Tp Gr28_joined.rk) := Gr28_joined.l58 k x.1 x.2.1 x.2.2 κ.1
def Gr28_joined.Λ0 : Cuts (Tp Gr28_joined.rk) := cutsOf []
def Gr28_joined.Λ1 : Cuts (Tp Gr28_joined.rk) := cutsOf [(1865, cut Tryd.prog Gr28_joined.fr1865 Gr28_joined.ou1865 (Gr28_joined.T1865))]
def Gr28_joined.Λ : Cuts (Tp Gr28_joined.rk) := cutsOf [(58, cut Tryd.prog Gr28_joined.fr58 Gr28_joined.ou58 (Gr28_joined.T58 NN)), (1865, cut Tryd.prog Gr28_joined.fr1865 Gr28_joined.ou1865 (Gr28_joined.T1865))]
theorem Gr28_joined.c1865 (A : Ks) (w0 : World) : CutOk Tryd.prog ⟨Tryd.f44.ntmps, 0, A⟩ w0 (kRet Tryd.prog Tryd.f44.results.toList Gr28_joined.rk) (bodyOf Tryd.f44) 1865 (cut Tryd.prog Gr28_joined.fr1865 Gr28_joined.ou1865 (Gr28_joined.T1865)) :=
  cut_ok Gr28_joined.hρ (Λ := Gr28_joined.Λ0) (cuts_nil) (by kernel_rfl) (by kernel_rfl) (D := 64) (c := nodeOf Tryd.f44 1865) (by kernel_rfl) (by kernel_rfl) (fun x κ => by kernel_rfl)
theorem Gr28_joined.c58 (A : Ks) (w0 : World) : CutOk Tryd.prog ⟨Tryd.f44.ntmps, 0, A⟩ w0 (kRet Tryd.prog Tryd.f44.results.toList Gr28_joined.rk) (bodyOf Tryd.f44) 58 (cut Tryd.prog Gr28_joined.fr58 Gr28_joined.ou58 (Gr28_joined.T58 NN)) :=
  loop_ok Gr28_joined.hρ (Λ := Gr28_joined.Λ1) (cuts_cons (Gr28_joined.c1865 A w0) (cuts_nil)) (by kernel_rfl) (D := 64) (b := loopOf Tryd.f44 58) (by kernel_rfl) (by kernel_rfl) NN (fun x κ => by kernel_rfl) (fun k x κ => by kernel_rfl)
theorem Gr28_joined.spec : Spec Tryd.prog 44 Gr28_joined.pk Gr28_joined.rk Gr28_joined.g :=
  spec_of_body (fn := Tryd.f44) (c := bodyOf Tryd.f44) (by kernel_rfl) (by kernel_rfl) (by kernel_rfl) (by kernel_rfl) (ρ := Gr28_joined.ρ) Gr28_joined.hρ (Λ := Gr28_joined.Λ) (fun A w0 => cuts_cons (Gr28_joined.c58 A w0) (cuts_cons (Gr28_joined.c1865 A w0) (cuts_nil))) (fun x => by kernel_rfl)

/-! ### 42 bluebell/bluebellref28.fits -/
def Gr28_fits.l28 : Nat → (List D) → Int → Int → (Int → Option Int) → Option Int
  | 0, _, _, _, _ => none
  | k + 1, v0, v1, v5, κ1 =>
    gd ((!(decide (v5 < (v0.length : Int)))) || (decide (0 ≤ (IntKind.i64.wrap (v5 + 1))) && decide ((IntKind.i64.wrap (v5 + 1)) ≤ (v0.length : Int)))) ((bif (decide (v5 < (v0.length : Int))) then Gr28_joined.f (v0.take (IntKind.i64.wrap (v5 + 1)).toNat) else some ByteArray.empty).bind fun r1 => bif ((decide (v5 < (v0.length : Int))) && (decide ((r1.size : Int) ≤ v1))) then Gr28_fits.l28 k v0 v1 (IntKind.i64.wrap (v5 + 1)) κ1 else κ1 v5)
def Gr28_fits.f (a0 : List D) (a1 : Int) : Option Int :=
  Gr28_fits.l28 NN a0 a1 1 (fun y2 => some y2)
def Gr28_fits.pk : List FK := [.sl 9, .int .i64]
def Gr28_fits.rk : List FK := [.int .i64]
def Gr28_fits.g : Tp Gr28_fits.pk → Option (Tp Gr28_fits.rk) := fun x => Gr28_fits.f x.1 x.2
def Gr28_fits.ρ : List (Entry (Tp Gr28_fits.rk)) := [entry _ Tryd.prog 44 Gr28_joined.pk Gr28_joined.rk Gr28_joined.g]
theorem Gr28_fits.hρ : ∀ e ∈ Gr28_fits.ρ, EntryOk Tryd.prog e :=
  ents_cons (ent (fn := Tryd.f44) Gr28_joined.spec (by kernel_rfl) (by kernel_rfl) (by kernel_rfl) (by kernel_rfl)) (ents_nil)
def Gr28_fits.fr28 : Fr := [(0, .sl 9), (1, .int .i64), (5, .int .i64)]
def Gr28_fits.ou28 : Outs := [(1, [(5, .int .i64)])]
def Gr28_fits.T28 (k : Nat) (x : Gr28_fits.fr28.T) (κ : Kp (Tp Gr28_fits.rk) Gr28_fits.ou28) : Option (Tp Gr28_fits.rk) := Gr28_fits.l28 k x.1 x.2.1 x.2.2 κ.1
def Gr28_fits.Λ0 : Cuts (Tp Gr28_fits.rk) := cutsOf []
def Gr28_fits.Λ : Cuts (Tp Gr28_fits.rk) := cutsOf [(28, cut Tryd.prog Gr28_fits.fr28 Gr28_fits.ou28 (Gr28_fits.T28 NN))]
theorem Gr28_fits.c28 (A : Ks) (w0 : World) : CutOk Tryd.prog ⟨Tryd.f42.ntmps, 0, A⟩ w0 (kRet Tryd.prog Tryd.f42.results.toList Gr28_fits.rk) (bodyOf Tryd.f42) 28 (cut Tryd.prog Gr28_fits.fr28 Gr28_fits.ou28 (Gr28_fits.T28 NN)) :=
  loop_ok Gr28_fits.hρ (Λ := Gr28_fits.Λ0) (cuts_nil) (by kernel_rfl) (D := 64) (b := loopOf Tryd.f42 28) (by kernel_rfl) (by kernel_rfl) NN (fun x κ => by kernel_rfl) (fun k x κ => by kernel_rfl)
theorem Gr28_fits.spec : Spec Tryd.prog 42 Gr28_fits.pk Gr28_fits.rk Gr28_fits.g :=
  spec_of_body (fn := Tryd.f42) (c := bodyOf Tryd.f42) (by kernel_rfl) (by kernel_rfl) (by kernel_rfl) (by kernel_rfl) (ρ := Gr28_fits.ρ) Gr28_fits.hρ (Λ := Gr28_fits.Λ) (fun A w0 => cuts_cons (Gr28_fits.c28 A w0) (cuts_nil)) (fun x => by kernel_rfl)

/-! ### 52 bluebell/bluebellref28.blanks -/
def Gr28_blanks.l58 : Nat → Int → ByteArray → Int → (ByteArray → Option ByteArray) → Option ByteArray
  | 0, _, _, _, _ => none
  | k + 1, v0, v3, v4, κ1 =>
    bif decide (v4 < v0) then gd (decide (v3.size + str20.size ≤ maxS)) (Gr28_blanks.l58 k v0 (v3 ++ str20) (IntKind.i64.wrap (v4 + 1)) κ1) else κ1 v3
def Gr28_blanks.f (a0 : Int) : Option ByteArray :=
  Gr28_blanks.l58 NN a0 strNil 0 (fun y1 => some y1)
def Gr28_blanks.pk : List FK := [.int .i64]
def Gr28_blanks.rk : List FK := [.str]
def Gr28_blanks.g : Tp Gr28_blanks.pk → Option (Tp Gr28_blanks.rk) := fun x => Gr28_blanks.f x
def Gr28_blanks.ρ : List (Entry (Tp Gr28_blanks.rk)) := []
theorem Gr28_blanks.hρ : ∀ e ∈ Gr28_blanks.ρ, EntryOk Tryd.prog e :=
  ents_nil
def Gr28_blanks.fr58 : Fr := [(0, .int .i64), (3, .str), (4, .int .i64)]
def Gr28_blanks.ou58 : Outs := [(1, [(3, .str)])]
def Gr28_blanks.T58 (k : Nat) (x : Gr28_blanks.fr58.T) (κ : Kp (Tp Gr28_blanks.rk) Gr28_blanks.ou58) : Option (Tp Gr28_blanks.rk) := Gr28_blanks.l58 k x.1 x.2.1 x.2.2 κ.1
def Gr28_blanks.Λ0 : Cuts (Tp Gr28_blanks.rk) := cutsOf []
def Gr28_blanks.Λ : Cuts (Tp Gr28_blanks.rk) := cutsOf [(58, cut Tryd.prog Gr28_blanks.fr58 Gr28_blanks.ou58 (Gr28_blanks.T58 NN))]
theorem Gr28_blanks.c58 (A : Ks) (w0 : World) : CutOk Tryd.prog ⟨Tryd.f52.ntmps, 0, A⟩ w0 (kRet Tryd.prog Tryd.f52.results.toList Gr28_blanks.rk) (bodyOf Tryd.f52) 58 (cut Tryd.prog Gr28_blanks.fr58 Gr28_blanks.ou58 (Gr28_blanks.T58 NN)) :=
  loop_ok Gr28_blanks.hρ (Λ := Gr28_blanks.Λ0) (cuts_nil) (by kernel_rfl) (D := 64) (b := loopOf Tryd.f52 58) (by kernel_rfl) (by kernel_rfl) NN (fun x κ => by kernel_rfl) (fun k x κ => by kernel_rfl)
theorem Gr28_blanks.spec : Spec Tryd.prog 52 Gr28_blanks.pk Gr28_blanks.rk Gr28_blanks.g :=
  spec_of_body (fn := Tryd.f52) (c := bodyOf Tryd.f52) (by kernel_rfl) (by kernel_rfl) (by kernel_rfl) (by kernel_rfl) (ρ := Gr28_blanks.ρ) Gr28_blanks.hρ (Λ := Gr28_blanks.Λ) (fun A w0 => cuts_cons (Gr28_blanks.c58 A w0) (cuts_nil)) (fun x => by kernel_rfl)

/-! ### 43 bluebell/bluebellref28.spread -/
def Gr28_spread.p32403 (v0 : List D) (v5 : Int) (v6 : Int) (v7 : ByteArray) (v8 : Int) (v9 : Int) (κ0 : (List D × Int × Int × ByteArray × Int) → Option ByteArray) : Option ByteArray :=
  (Gr28_blanks.f (IntKind.i64.wrap (1 + v9))).bind fun r3 => gd (inB v8 v0.length) (gd (decide (r3.size + ((rd v0 v8.toNat).str).size ≤ maxS)) (gd (decide (v7.size + (r3 ++ ((rd v0 v8.toNat).str)).size ≤ maxS)) (κ0 (v0, v5, v6, (v7 ++ (r3 ++ ((rd v0 v8.toNat).str))), v8))))
def Gr28_spread.l506 : Nat → (List D) → Int → Int → ByteArray → Int → (ByteArray → Option ByteArray) → Option ByteArray
  | 0, _, _, _, _, _, _ => none
  | k + 1, v0, v5, v6, v7, v8, κ1 =>
    bif decide (v8 ≤ v6) then gd (!(v6 == 0)) (gd (!(v6 == 0)) (bif decide (v8 > (IntKind.i64.wrap (v6 - (v5.tmod v6)))) then Gr28_spread.p32403 v0 v5 v6 v7 v8 (IntKind.i64.wrap ((IntKind.i64.wrap (v5.tdiv v6)) + 1)) (fun y4 => Gr28_spread.l506 k y4.1 y4.2.1 y4.2.2.1 y4.2.2.2.1 (IntKind.i64.wrap (y4.2.2.2.2 + 1)) κ1) else Gr28_spread.p32403 v0 v5 v6 v7 v8 (IntKind.i64.wrap (v5.tdiv v6)) (fun y5 => Gr28_spread.l506 k y5.1 y5.2.1 y5.2.2.1 y5.2.2.2.1 (IntKind.i64.wrap (y5.2.2.2.2 + 1)) κ1))) else κ1 v7
def Gr28_spread.f (a0 : List D) (a1 : Int) : Option ByteArray :=
  (Gr28_joined.f a0).bind fun r1 => bif ((decide ((IntKind.i64.wrap (a1 - (r1.size : Int))) ≤ 0)) || ((IntKind.i64.wrap ((a0.length : Int) - 1)) == 0)) then (Gr28_joined.f a0).bind fun r2 => some r2 else gd (inB 0 a0.length) (Gr28_spread.l506 NN a0 (IntKind.i64.wrap (a1 - (r1.size : Int))) (IntKind.i64.wrap ((a0.length : Int) - 1)) ((rd a0 0).str) 1 (fun y6 => some y6))
def Gr28_spread.pk : List FK := [.sl 9, .int .i64]
def Gr28_spread.rk : List FK := [.str]
def Gr28_spread.g : Tp Gr28_spread.pk → Option (Tp Gr28_spread.rk) := fun x => Gr28_spread.f x.1 x.2
def Gr28_spread.ρ : List (Entry (Tp Gr28_spread.rk)) := [entry _ Tryd.prog 44 Gr28_joined.pk Gr28_joined.rk Gr28_joined.g, entry _ Tryd.prog 52 Gr28_blanks.pk Gr28_blanks.rk Gr28_blanks.g]
theorem Gr28_spread.hρ : ∀ e ∈ Gr28_spread.ρ, EntryOk Tryd.prog e :=
  ents_cons (ent (fn := Tryd.f44) Gr28_joined.spec (by kernel_rfl) (by kernel_rfl) (by kernel_rfl) (by kernel_rfl)) (ents_cons (ent (fn := Tryd.f52) Gr28_blanks.spec (by kernel_rfl) (by kernel_rfl) (by kernel_rfl) (by kernel_rfl)) (ents_nil))
def Gr28_spread.fr32403 : Fr := [(0, .sl 9), (5, .int .i64), (6, .int .i64), (7, .str), (8, .int .i64), (9, .int .i64)]
def Gr28_spread.ou32403 : Outs := [(0, [(0, .sl 9), (5, .int .i64), (6, .int .i64), (7, .str), (8, .int .i64)])]
def Gr28_spread.T32403 (x : Gr28_spread.fr32403.T) (κ : Kp (Tp Gr28_spread.rk) Gr28_spread.ou32403) : Option (Tp Gr28_spread.rk) := Gr28_spread.p32403 x.1 x.2.1 x.2.2.1 x.2.2.2.1 x.2.2.2.2.1 x.2.2.2.2.2 κ.1
def Gr28_spread.fr506 : Fr := [(0, .sl 9), (5, .int .i64), (6, .int .i64), (7, .str), (8, .int .i64)]
def Gr28_spread.ou506 : Outs := [(1, [(7, .str)])]
def Gr28_spread.T506 (k : Nat) (x : Gr28_spread.fr506.T) (κ : Kp (Tp Gr28_spread.rk) Gr28_spread.ou506) : Option (Tp Gr28_spread.rk) := Gr28_spread.l506 k x.1 x.2.1 x.2.2.1 x.2.2.2.1 x.2.2.2.2 κ.1
def Gr28_spread.Λ0 : Cuts (Tp Gr28_spread.rk) := cutsOf []
def Gr28_spread.Λ1 : Cuts (Tp Gr28_spread.rk) := cutsOf [(32403, cut Tryd.prog Gr28_spread.fr32403 Gr28_spread.ou32403 (Gr28_spread.T32403))]
def Gr28_spread.Λ : Cuts (Tp Gr28_spread.rk) := cutsOf [(506, cut Tryd.prog Gr28_spread.fr506 Gr28_spread.ou506 (Gr28_spread.T506 NN)), (32403, cut Tryd.prog Gr28_spread.fr32403 Gr28_spread.ou32403 (Gr28_spread.T32403))]
theorem Gr28_spread.c32403 (A : Ks) (w0 : World) : CutOk Tryd.prog ⟨Tryd.f43.ntmps, 0, A⟩ w0 (kRet Tryd.prog Tryd.f43.results.toList Gr28_spread.rk) (bodyOf Tryd.f43) 32403 (cut Tryd.prog Gr28_spread.fr32403 Gr28_spread.ou32403 (Gr28_spread.T32403)) :=
  cut_ok Gr28_spread.hρ (Λ := Gr28_spread.Λ0) (cuts_nil) (by kernel_rfl) (by kernel_rfl) (D := 64) (c := nodeOf Tryd.f43 32403) (by kernel_rfl) (by kernel_rfl) (fun x κ => by kernel_rfl)
theorem Gr28_spread.c506 (A : Ks) (w0 : World) : CutOk Tryd.prog ⟨Tryd.f43.ntmps, 0, A⟩ w0 (kRet Tryd.prog Tryd.f43.results.toList Gr28_spread.rk) (bodyOf Tryd.f43) 506 (cut Tryd.prog Gr28_spread.fr506 Gr28_spread.ou506 (Gr28_spread.T506 NN)) :=
  loop_ok Gr28_spread.hρ (Λ := Gr28_spread.Λ1) (cuts_cons (Gr28_spread.c32403 A w0) (cuts_nil)) (by kernel_rfl) (D := 64) (b := loopOf Tryd.f43 506) (by kernel_rfl) (by kernel_rfl) NN (fun x κ => by kernel_rfl) (fun k x κ => by kernel_rfl)
theorem Gr28_spread.spec : Spec Tryd.prog 43 Gr28_spread.pk Gr28_spread.rk Gr28_spread.g :=
  spec_of_body (fn := Tryd.f43) (c := bodyOf Tryd.f43) (by kernel_rfl) (by kernel_rfl) (by kernel_rfl) (by kernel_rfl) (ρ := Gr28_spread.ρ) Gr28_spread.hρ (Λ := Gr28_spread.Λ) (fun A w0 => cuts_cons (Gr28_spread.c506 A w0) (cuts_cons (Gr28_spread.c32403 A w0) (cuts_nil))) (fun x => by kernel_rfl)

/-! ### 15 bluebell/bluebellref28.Fill -/
def Gr28_Fill.p3979 (v0 : List D) (v1 : Int) (v2 : Bool) (v9 : List D) (v10 : Int) (κ0 : (List D × Int × Bool × List D) → Option (List D × Int)) : Option (List D × Int) :=
  gd (decide (0 ≤ v10) && decide (v10 ≤ (v0.length : Int))) (κ0 ((v0.drop v10.toNat), v1, v2, v9))
def Gr28_Fill.l124 : Nat → (List D) → Int → Bool → (List D) → (List D → Option (List D × Int)) → Option (List D × Int)
  | 0, _, _, _, _, _ => none
  | k + 1, v0, v1, v2, v9, κ1 =>
    bif decide ((v0.length : Int) > 0) then (Gr28_fits.f v0 v1).bind fun r2 => bif (v2 && (decide (r2 < (v0.length : Int)))) then gd (decide (0 ≤ r2) && decide (r2 ≤ (v0.length : Int))) ((Gr28_spread.f (v0.take r2.toNat) v1).bind fun r3 => gd (Nat.ble (v9.length + ([.s r3] : List D).length) lim) (Gr28_Fill.p3979 v0 v1 v2 (v9 ++ ([.s r3] : List D)) r2 (fun y4 => Gr28_Fill.l124 k y4.1 y4.2.1 y4.2.2.1 y4.2.2.2 κ1))) else gd (decide (0 ≤ r2) && decide (r2 ≤ (v0.length : Int))) ((Gr28_joined.f (v0.take r2.toNat)).bind fun r5 => gd (Nat.ble (v9.length + ([.s r5] : List D).length) lim) (Gr28_Fill.p3979 v0 v1 v2 (v9 ++ ([.s r5] : List D)) r2 (fun y6 => Gr28_Fill.l124 k y6.1 y6.2.1 y6.2.2.1 y6.2.2.2 κ1))) else κ1 v9
def Gr28_Fill.f (a0 : List D) (a1 : Int) (a2 : Bool) : Option (List D × Int) :=
  (Gr28_wrong.f a0 a1).bind fun r1 => bif (r1 != 0) then some ([], r1) else Gr28_Fill.l124 NN a0 a1 a2 [] (fun y7 => some (y7, 0))
def Gr28_Fill.pk : List FK := [.sl 9, .int .i64, .bool]
def Gr28_Fill.rk : List FK := [.own 9, .int .i64]
def Gr28_Fill.g : Tp Gr28_Fill.pk → Option (Tp Gr28_Fill.rk) := fun x => Gr28_Fill.f x.1 x.2.1 x.2.2
def Gr28_Fill.ρ : List (Entry (Tp Gr28_Fill.rk)) := [entry _ Tryd.prog 41 Gr28_wrong.pk Gr28_wrong.rk Gr28_wrong.g, entry _ Tryd.prog 42 Gr28_fits.pk Gr28_fits.rk Gr28_fits.g, entry _ Tryd.prog 43 Gr28_spread.pk Gr28_spread.rk Gr28_spread.g, entry _ Tryd.prog 44 Gr28_joined.pk Gr28_joined.rk Gr28_joined.g]
theorem Gr28_Fill.hρ : ∀ e ∈ Gr28_Fill.ρ, EntryOk Tryd.prog e :=
  ents_cons (ent (fn := Tryd.f41) Gr28_wrong.spec (by kernel_rfl) (by kernel_rfl) (by kernel_rfl) (by kernel_rfl)) (ents_cons (ent (fn := Tryd.f42) Gr28_fits.spec (by kernel_rfl) (by kernel_rfl) (by kernel_rfl) (by kernel_rfl)) (ents_cons (ent (fn := Tryd.f43) Gr28_spread.spec (by kernel_rfl) (by kernel_rfl) (by kernel_rfl) (by kernel_rfl)) (ents_cons (ent (fn := Tryd.f44) Gr28_joined.spec (by kernel_rfl) (by kernel_rfl) (by kernel_rfl) (by kernel_rfl)) (ents_nil))))
def Gr28_Fill.fr3979 : Fr := [(0, .sl 9), (1, .int .i64), (2, .bool), (9, .own 9), (10, .int .i64)]
def Gr28_Fill.ou3979 : Outs := [(0, [(0, .sl 9), (1, .int .i64), (2, .bool), (9, .own 9)])]
def Gr28_Fill.T3979 (x : Gr28_Fill.fr3979.T) (κ : Kp (Tp Gr28_Fill.rk) Gr28_Fill.ou3979) : Option (Tp Gr28_Fill.rk) := Gr28_Fill.p3979 x.1 x.2.1 x.2.2.1 x.2.2.2.1 x.2.2.2.2 κ.1
def Gr28_Fill.fr124 : Fr := [(0, .sl 9), (1, .int .i64), (2, .bool), (9, .own 9)]
def Gr28_Fill.ou124 : Outs := [(1, [(9, .own 9)])]
def Gr28_Fill.T124 (k : Nat) (x : Gr28_Fill.fr124.T) (κ : Kp (Tp Gr28_Fill.rk) Gr28_Fill.ou124) : Option (Tp Gr28_Fill.rk) := Gr28_Fill.l124 k x.1 x.2.1 x.2.2.1 x.2.2.2 κ.1
def Gr28_Fill.Λ0 : Cuts (Tp Gr28_Fill.rk) := cutsOf []
def Gr28_Fill.Λ1 : Cuts (Tp Gr28_Fill.rk) := cutsOf [(3979, cut Tryd.prog Gr28_Fill.fr3979 Gr28_Fill.ou3979 (Gr28_Fill.T3979))]
def Gr28_Fill.Λ : Cuts (Tp Gr28_Fill.rk) := cutsOf [(124, cut Tryd.prog Gr28_Fill.fr124 Gr28_Fill.ou124 (Gr28_Fill.T124 NN)), (3979, cut Tryd.prog Gr28_Fill.fr3979 Gr28_Fill.ou3979 (Gr28_Fill.T3979))]
theorem Gr28_Fill.c3979 (A : Ks) (w0 : World) : CutOk Tryd.prog ⟨Tryd.f15.ntmps, 0, A⟩ w0 (kRet Tryd.prog Tryd.f15.results.toList Gr28_Fill.rk) (bodyOf Tryd.f15) 3979 (cut Tryd.prog Gr28_Fill.fr3979 Gr28_Fill.ou3979 (Gr28_Fill.T3979)) :=
  cut_ok Gr28_Fill.hρ (Λ := Gr28_Fill.Λ0) (cuts_nil) (by kernel_rfl) (by kernel_rfl) (D := 64) (c := nodeOf Tryd.f15 3979) (by kernel_rfl) (by kernel_rfl) (fun x κ => by kernel_rfl)
theorem Gr28_Fill.c124 (A : Ks) (w0 : World) : CutOk Tryd.prog ⟨Tryd.f15.ntmps, 0, A⟩ w0 (kRet Tryd.prog Tryd.f15.results.toList Gr28_Fill.rk) (bodyOf Tryd.f15) 124 (cut Tryd.prog Gr28_Fill.fr124 Gr28_Fill.ou124 (Gr28_Fill.T124 NN)) :=
  loop_ok Gr28_Fill.hρ (Λ := Gr28_Fill.Λ1) (cuts_cons (Gr28_Fill.c3979 A w0) (cuts_nil)) (by kernel_rfl) (D := 64) (b := loopOf Tryd.f15 124) (by kernel_rfl) (by kernel_rfl) NN (fun x κ => by kernel_rfl) (fun k x κ => by kernel_rfl)
theorem Gr28_Fill.spec : Spec Tryd.prog 15 Gr28_Fill.pk Gr28_Fill.rk Gr28_Fill.g :=
  spec_of_body (fn := Tryd.f15) (c := bodyOf Tryd.f15) (by kernel_rfl) (by kernel_rfl) (by kernel_rfl) (by kernel_rfl) (ρ := Gr28_Fill.ρ) Gr28_Fill.hρ (Λ := Gr28_Fill.Λ) (fun A w0 => cuts_cons (Gr28_Fill.c124 A w0) (cuts_cons (Gr28_Fill.c3979 A w0) (cuts_nil))) (fun x => by kernel_rfl)

/-! ### 17 bluebell/bluebellref28.Spread -/
def Gr28_Spread.f (a0 : List D) (a1 : Int) : Option (ByteArray × Int) :=
  (Gr28_wrong.f a0 a1).bind fun r1 => bif (r1 != 0) then some (strNil, r1) else bif ((a0.length : Int) == 0) then some (strNil, 4) else (Gr28_spread.f a0 a1).bind fun r2 => some (r2, 0)
def Gr28_Spread.pk : List FK := [.sl 9, .int .i64]
def Gr28_Spread.rk : List FK := [.str, .int .i64]
def Gr28_Spread.g : Tp Gr28_Spread.pk → Option (Tp Gr28_Spread.rk) := fun x => Gr28_Spread.f x.1 x.2
def Gr28_Spread.ρ : List (Entry (Tp Gr28_Spread.rk)) := [entry _ Tryd.prog 41 Gr28_wrong.pk Gr28_wrong.rk Gr28_wrong.g, entry _ Tryd.prog 43 Gr28_spread.pk Gr28_spread.rk Gr28_spread.g]
theorem Gr28_Spread.hρ : ∀ e ∈ Gr28_Spread.ρ, EntryOk Tryd.prog e :=
  ents_cons (ent (fn := Tryd.f41) Gr28_wrong.spec (by kernel_rfl) (by kernel_rfl) (by kernel_rfl) (by kernel_rfl)) (ents_cons (ent (fn := Tryd.f43) Gr28_spread.spec (by kernel_rfl) (by kernel_rfl) (by kernel_rfl) (by kernel_rfl)) (ents_nil))
def Gr28_Spread.Λ : Cuts (Tp Gr28_Spread.rk) := cutsOf []
theorem Gr28_Spread.spec : Spec Tryd.prog 17 Gr28_Spread.pk Gr28_Spread.rk Gr28_Spread.g :=
  spec_of_body (fn := Tryd.f17) (c := bodyOf Tryd.f17) (by kernel_rfl) (by kernel_rfl) (by kernel_rfl) (by kernel_rfl) (ρ := Gr28_Spread.ρ) Gr28_Spread.hρ (Λ := Gr28_Spread.Λ) (fun A w0 => cuts_nil) (fun x => by kernel_rfl)

/-! ### 18 bluebell/bluebellref00.EqStrings -/
def Gr00_EqStrings.l58 : Nat → (List D) → (List D) → Int → (Unit → Option Bool) → Option Bool
  | 0, _, _, _, _ => none
  | k + 1, v0, v1, v5, κ1 =>
    bif decide (v5 < (v0.length : Int)) then gd (inB v5 v0.length) (gd (inB v5 v1.length) (bif (!(((rd v0 v5.toNat).str).toList == ((rd v1 v5.toNat).str).toList)) then some false else Gr00_EqStrings.l58 k v0 v1 (IntKind.i64.wrap (v5 + 1)) κ1)) else κ1 ()
def Gr00_EqStrings.f (a0 : List D) (a1 : List D) : Option Bool :=
  bif ((a0.length : Int) != (a1.length : Int)) then some false else Gr00_EqStrings.l58 NN a0 a1 0 (fun y1 => some true)
def Gr00_EqStrings.pk : List FK := [.sl 9, .sl 9]
def Gr00_EqStrings.rk : List FK := [.bool]
def Gr00_EqStrings.g : Tp Gr00_EqStrings.pk → Option (Tp Gr00_EqStrings.rk) := fun x => Gr00_EqStrings.f x.1 x.2
def Gr00_EqStrings.ρ : List (Entry (Tp Gr00_EqStrings.rk)) := []
theorem Gr00_EqStrings.hρ : ∀ e ∈ Gr00_EqStrings.ρ, EntryOk Tryd.prog e :=
  ents_nil
def Gr00_EqStrings.fr58 : Fr := [(0, .sl 9), (1, .sl 9), (5, .int .i64)]
def Gr00_EqStrings.ou58 : Outs := [(1, [])]
def Gr00_EqStrings.T58 (k : Nat) (x : Gr00_EqStrings.fr58.T) (κ : Kp (Tp Gr00_EqStrings.rk) Gr00_EqStrings.ou58) : Option (Tp Gr00_EqStrings.rk) := Gr00_EqStrings.l58 k x.1 x.2.1 x.2.2 κ.1
def Gr00_EqStrings.Λ0 : Cuts (Tp Gr00_EqStrings.rk) := cutsOf []
def Gr00_EqStrings.Λ : Cuts (Tp Gr00_EqStrings.rk) := cutsOf [(58, cut Tryd.prog Gr00_EqStrings.fr58 Gr00_EqStrings.ou58 (Gr00_EqStrings.T58 NN))]
theorem Gr00_EqStrings.c58 (A : Ks) (w0 : World) : CutOk Tryd.prog ⟨Tryd.f18.ntmps, 0, A⟩ w0 (kRet Tryd.prog Tryd.f18.results.toList Gr00_EqStrings.rk) (bodyOf Tryd.f18) 58 (cut Tryd.prog Gr00_EqStrings.fr58 Gr00_EqStrings.ou58 (Gr00_EqStrings.T58 NN)) :=
  loop_ok Gr00_EqStrings.hρ (Λ := Gr00_EqStrings.Λ0) (cuts_nil) (by kernel_rfl) (D := 64) (b := loopOf Tryd.f18 58) (by kernel_rfl) (by kernel_rfl) NN (fun x κ => by kernel_rfl) (fun k x κ => by kernel_rfl)
theorem Gr00_EqStrings.spec : Spec Tryd.prog 18 Gr00_EqStrings.pk Gr00_EqStrings.rk Gr00_EqStrings.g :=
  spec_of_body (fn := Tryd.f18) (c := bodyOf Tryd.f18) (by kernel_rfl) (by kernel_rfl) (by kernel_rfl) (by kernel_rfl) (ρ := Gr00_EqStrings.ρ) Gr00_EqStrings.hρ (Λ := Gr00_EqStrings.Λ) (fun A w0 => cuts_cons (Gr00_EqStrings.c58 A w0) (cuts_nil)) (fun x => by kernel_rfl)

/-! ### 4 bluebell/bluebelllaw28.PaperFills -/
def Gw28_PaperFills.f (a0 : List D) (a1 : Int) (a2 : Bool) : Option Bool :=
  (Gw28_many.f a0).bind fun r1 => bif r1 then (Gw28_awake.f).bind fun r2 => some r2 else (Gpaper_Fill.f a0 a1 a2).bind fun r3 => (Gr28_Fill.f a0 a1 a2).bind fun r4 => (Gpaper_Spread.f a0 a1).bind fun r5 => (Gr28_Spread.f a0 a1).bind fun r6 => (Gr00_EqStrings.f r3.1 r4.1).bind fun r7 => (bif (((r7 && (r3.2 == r4.2)) && (r5.1.toList == r6.1.toList)) && (r5.2 == r6.2)) then Gw28_awake.f else some false).bind fun r8 => some ((((r7 && (r3.2 == r4.2)) && (r5.1.toList == r6.1.toList)) && (r5.2 == r6.2)) && r8)
def Gw28_PaperFills.pk : List FK := [.sl 9, .int .i64, .bool]
def Gw28_PaperFills.rk : List FK := [.bool]
def Gw28_PaperFills.g : Tp Gw28_PaperFills.pk → Option (Tp Gw28_PaperFills.rk) := fun x => Gw28_PaperFills.f x.1 x.2.1 x.2.2
def Gw28_PaperFills.ρ : List (Entry (Tp Gw28_PaperFills.rk)) := [entry _ Tryd.prog 13 Gw28_many.pk Gw28_many.rk Gw28_many.g, entry _ Tryd.prog 9 Gw28_awake.pk Gw28_awake.rk Gw28_awake.g, entry _ Tryd.prog 14 Gpaper_Fill.pk Gpaper_Fill.rk Gpaper_Fill.g, entry _ Tryd.prog 15 Gr28_Fill.pk Gr28_Fill.rk Gr28_Fill.g, entry _ Tryd.prog 16 Gpaper_Spread.pk Gpaper_Spread.rk Gpaper_Spread.g, entry _ Tryd.prog 17 Gr28_Spread.pk Gr28_Spread.rk Gr28_Spread.g, entry _ Tryd.prog 18 Gr00_EqStrings.pk Gr00_EqStrings.rk Gr00_EqStrings.g]
theorem Gw28_PaperFills.hρ : ∀ e ∈ Gw28_PaperFills.ρ, EntryOk Tryd.prog e :=
  ents_cons (ent (fn := Tryd.f13) Gw28_many.spec (by kernel_rfl) (by kernel_rfl) (by kernel_rfl) (by kernel_rfl)) (ents_cons (ent (fn := Tryd.f9) Gw28_awake.spec (by kernel_rfl) (by kernel_rfl) (by kernel_rfl) (by kernel_rfl)) (ents_cons (ent (fn := Tryd.f14) Gpaper_Fill.spec (by kernel_rfl) (by kernel_rfl) (by kernel_rfl) (by kernel_rfl)) (ents_cons (ent (fn := Tryd.f15) Gr28_Fill.spec (by kernel_rfl) (by kernel_rfl) (by kernel_rfl) (by kernel_rfl)) (ents_cons (ent (fn := Tryd.f16) Gpaper_Spread.spec (by kernel_rfl) (by kernel_rfl) (by kernel_rfl) (by kernel_rfl)) (ents_cons (ent (fn := Tryd.f17) Gr28_Spread.spec (by kernel_rfl) (by kernel_rfl) (by kernel_rfl) (by kernel_rfl)) (ents_cons (ent (fn := Tryd.f18) Gr00_EqStrings.spec (by kernel_rfl) (by kernel_rfl) (by kernel_rfl) (by kernel_rfl)) (ents_nil)))))))
def Gw28_PaperFills.Λ : Cuts (Tp Gw28_PaperFills.rk) := cutsOf []
theorem Gw28_PaperFills.spec : Spec Tryd.prog 4 Gw28_PaperFills.pk Gw28_PaperFills.rk Gw28_PaperFills.g :=
  spec_of_body (fn := Tryd.f4) (c := bodyOf Tryd.f4) (by kernel_rfl) (by kernel_rfl) (by kernel_rfl) (by kernel_rfl) (ρ := Gw28_PaperFills.ρ) Gw28_PaperFills.hρ (Λ := Gw28_PaperFills.Λ) (fun A w0 => cuts_nil) (fun x => by kernel_rfl)

/-! ### 50 bluebell/paper.Words$1 -/
def Gpaper_Words_1.f (a0 : Int) : Option Bool :=
  some ((decide (a0 < 33)) || (decide (a0 > 126)))
def Gpaper_Words_1.pk : List FK := [.int .i32]
def Gpaper_Words_1.rk : List FK := [.bool]
def Gpaper_Words_1.g : Tp Gpaper_Words_1.pk → Option (Tp Gpaper_Words_1.rk) := fun x => Gpaper_Words_1.f x
def Gpaper_Words_1.ρ : List (Entry (Tp Gpaper_Words_1.rk)) := []
theorem Gpaper_Words_1.hρ : ∀ e ∈ Gpaper_Words_1.ρ, EntryOk Tryd.prog e :=
  ents_nil
def Gpaper_Words_1.Λ : Cuts (Tp Gpaper_Words_1.rk) := cutsOf []
theorem Gpaper_Words_1.spec : Spec Tryd.prog 50 Gpaper_Words_1.pk Gpaper_Words_1.rk Gpaper_Words_1.g :=
  spec_of_body (fn := Tryd.f50) (c := bodyOf Tryd.f50) (by kernel_rfl) (by kernel_rfl) (by kernel_rfl) (by kernel_rfl) (ρ := Gpaper_Words_1.ρ) Gpaper_Words_1.hρ (Λ := Gpaper_Words_1.Λ) (fun A w0 => cuts_nil) (fun x => by kernel_rfl)

/-! ### 19 bluebell/paper.Words -/
def Gpaper_Words.f (a0 : ByteArray) : Option (List D) :=
  (Gpaper_latin.f a0).bind fun r1 => (Gstrings_FieldsFunc.f r1).bind fun r2 => some r2
def Gpaper_Words.pk : List FK := [.str]
def Gpaper_Words.rk : List FK := [.own 9]
def Gpaper_Words.g : Tp Gpaper_Words.pk → Option (Tp Gpaper_Words.rk) := fun x => Gpaper_Words.f x
def Gpaper_Words.ρ : List (Entry (Tp Gpaper_Words.rk)) := [entry _ Tryd.prog 49 Gpaper_latin.pk Gpaper_latin.rk Gpaper_latin.g, entry _ Tryd.prog 48 Gstrings_FieldsFunc.pk Gstrings_FieldsFunc.rk Gstrings_FieldsFunc.g]
theorem Gpaper_Words.hρ : ∀ e ∈ Gpaper_Words.ρ, EntryOk Tryd.prog e :=
  ents_cons (ent (fn := Tryd.f49) Gpaper_latin.spec (by kernel_rfl) (by kernel_rfl) (by kernel_rfl) (by kernel_rfl)) (ents_cons (ent (fn := Tryd.f48) Gstrings_FieldsFunc.spec (by kernel_rfl) (by kernel_rfl) (by kernel_rfl) (by kernel_rfl)) (ents_nil))
def Gpaper_Words.Λ : Cuts (Tp Gpaper_Words.rk) := cutsOf []
theorem Gpaper_Words.spec : Spec Tryd.prog 19 Gpaper_Words.pk Gpaper_Words.rk Gpaper_Words.g :=
  spec_of_body (fn := Tryd.f19) (c := bodyOf Tryd.f19) (by kernel_rfl) (by kernel_rfl) (by kernel_rfl) (by kernel_rfl) (ρ := Gpaper_Words.ρ) Gpaper_Words.hρ (Λ := Gpaper_Words.Λ) (fun A w0 => cuts_nil) (fun x => by kernel_rfl)

/-! ### 5 bluebell/bluebelllaw28.PaperWide -/
def Gw28_PaperWide.l259226 : Nat → (List D) → Int → Bool → (List D) → Int → Int → (List D) → Int → ((List D × Int × Bool × List D × Int × Int) → Option Bool) → Option Bool
  | 0, _, _, _, _, _, _, _, _, _ => none
  | k + 1, v0, v1, v2, v7, v9, v10, v11, v12, κ3 =>
    bif decide (v12 < (v11.length : Int)) then gd ((!(!(decide (v9 ≥ (v0.length : Int))))) || (inB v9 v0.length)) (gd ((!(!(decide (v9 ≥ (v0.length : Int))))) || (inB v12 v11.length)) (gd ((!(!(decide (v9 ≥ (v0.length : Int))))) || (Nat.blt v12.toNat v11.length)) (bif ((decide (v9 ≥ (v0.length : Int))) || (!(((rd v0 v9.toNat).str).toList == ((rd v11 v12.toNat).str).toList))) then some false else Gw28_PaperWide.l259226 k v0 v1 v2 v7 (IntKind.i64.wrap (v9 + 1)) v10 v11 (IntKind.i64.wrap (v12 + 1)) κ3))) else κ3 (v0, v1, v2, v7, v9, v10)
def Gw28_PaperWide.l506 : Nat → (List D) → Int → Bool → (List D) → Int → Int → ((List D × Int) → Option Bool) → Option Bool
  | 0, _, _, _, _, _, _, _ => none
  | k + 1, v0, v1, v2, v7, v9, v10, κ1 =>
    bif decide (v10 < (v7.length : Int)) then gd (inB v10 v7.length) (gd (Nat.blt v10.toNat v7.length) ((Gpaper_Words.f ((rd v7 v10.toNat).str)).bind fun r5 => gd ((!(!((r5.length : Int) == 0))) || (inB v10 v7.length)) (gd ((!(!((r5.length : Int) == 0))) || (Nat.blt v10.toNat v7.length)) (gd ((!((!(((r5.length : Int) == 0) || ((decide ((((rd v7 v10.toNat).str).size : Int) > v1)) && (decide ((r5.length : Int) > 1))))) && ((v2 && (decide (v10 < (IntKind.i64.wrap ((v7.length : Int) - 1))))) && (decide ((r5.length : Int) > 1))))) || (inB v10 v7.length)) (gd ((!((!(((r5.length : Int) == 0) || ((decide ((((rd v7 v10.toNat).str).size : Int) > v1)) && (decide ((r5.length : Int) > 1))))) && ((v2 && (decide (v10 < (IntKind.i64.wrap ((v7.length : Int) - 1))))) && (decide ((r5.length : Int) > 1))))) || (Nat.blt v10.toNat v7.length)) (bif ((((r5.length : Int) == 0) || ((decide ((((rd v7 v10.toNat).str).size : Int) > v1)) && (decide ((r5.length : Int) > 1)))) || (((v2 && (decide (v10 < (IntKind.i64.wrap ((v7.length : Int) - 1))))) && (decide ((r5.length : Int) > 1))) && ((((rd v7 v10.toNat).str).size : Int) != v1))) then some false else Gw28_PaperWide.l259226 NN v0 v1 v2 v7 v9 v10 r5 0 (fun y6 => gd ((!((decide (y6.2.2.2.2.1 < (y6.1.length : Int))) && (!y6.2.2.1))) || (inB y6.2.2.2.2.2 y6.2.2.2.1.length)) (gd ((!((decide (y6.2.2.2.2.1 < (y6.1.length : Int))) && (!y6.2.2.1))) || (Nat.blt y6.2.2.2.2.2.toNat y6.2.2.2.1.length)) (gd ((!((decide (y6.2.2.2.2.1 < (y6.1.length : Int))) && (!y6.2.2.1))) || (inB y6.2.2.2.2.1 y6.1.length)) (bif (((decide (y6.2.2.2.2.1 < (y6.1.length : Int))) && (!y6.2.2.1)) && (decide ((IntKind.i64.wrap ((IntKind.i64.wrap ((((rd y6.2.2.2.1 y6.2.2.2.2.2.toNat).str).size : Int) + 1)) + (((rd y6.1 y6.2.2.2.2.1.toNat).str).size : Int))) ≤ y6.2.1))) then some false else Gw28_PaperWide.l506 k y6.1 y6.2.1 y6.2.2.1 y6.2.2.2.1 y6.2.2.2.2.1 (IntKind.i64.wrap (y6.2.2.2.2.2 + 1)) κ1)))))))))) else κ1 (v0, v9)
def Gw28_PaperWide.f (a0 : List D) (a1 : Int) (a2 : Bool) : Option Bool :=
  (Gw28_many.f a0).bind fun r1 => bif r1 then (Gw28_awake.f).bind fun r2 => some r2 else (Gpaper_Fill.f a0 a1 a2).bind fun r3 => bif (r3.2 != 0) then (bif ((r3.1.length : Int) == 0) then Gw28_awake.f else some false).bind fun r4 => some (((r3.1.length : Int) == 0) && r4) else Gw28_PaperWide.l506 NN a0 a1 a2 r3.1 0 0 (fun y7 => (bif (y7.2 == (y7.1.length : Int)) then Gw28_awake.f else some false).bind fun r8 => some ((y7.2 == (y7.1.length : Int)) && r8))
def Gw28_PaperWide.pk : List FK := [.sl 9, .int .i64, .bool]
def Gw28_PaperWide.rk : List FK := [.bool]
def Gw28_PaperWide.g : Tp Gw28_PaperWide.pk → Option (Tp Gw28_PaperWide.rk) := fun x => Gw28_PaperWide.f x.1 x.2.1 x.2.2
def Gw28_PaperWide.ρ : List (Entry (Tp Gw28_PaperWide.rk)) := [entry _ Tryd.prog 13 Gw28_many.pk Gw28_many.rk Gw28_many.g, entry _ Tryd.prog 9 Gw28_awake.pk Gw28_awake.rk Gw28_awake.g, entry _ Tryd.prog 14 Gpaper_Fill.pk Gpaper_Fill.rk Gpaper_Fill.g, entry _ Tryd.prog 19 Gpaper_Words.pk Gpaper_Words.rk Gpaper_Words.g]
theorem Gw28_PaperWide.hρ : ∀ e ∈ Gw28_PaperWide.ρ, EntryOk Tryd.prog e :=
  ents_cons (ent (fn := Tryd.f13) Gw28_many.spec (by kernel_rfl) (by kernel_rfl) (by kernel_rfl) (by kernel_rfl)) (ents_cons (ent (fn := Tryd.f9) Gw28_awake.spec (by kernel_rfl) (by kernel_rfl) (by kernel_rfl) (by kernel_rfl)) (ents_cons (ent (fn := Tryd.f14) Gpaper_Fill.spec (by kernel_rfl) (by kernel_rfl) (by kernel_rfl) (by kernel_rfl)) (ents_cons (ent (fn := Tryd.f19) Gpaper_Words.spec (by kernel_rfl) (by kernel_rfl) (by kernel_rfl) (by kernel_rfl)) (ents_nil))))
def Gw28_PaperWide.fr259226 : Fr := [(0, .sl 9), (1, .int .i64), (2, .bool), (7, .own 9), (9, .int .i64), (10, .int .i64), (11, .own 9), (12, .int .i64)]
def Gw28_PaperWide.ou259226 : Outs := [(3, [(0, .sl 9), (1, .int .i64), (2, .bool), (7, .own 9), (9, .int .i64), (10, .int .i64)])]
def Gw28_PaperWide.T259226 (k : Nat) (x : Gw28_PaperWide.fr259226.T) (κ : Kp (Tp Gw28_PaperWide.rk) Gw28_PaperWide.ou259226) : Option (Tp Gw28_PaperWide.rk) := Gw28_PaperWide.l259226 k x.1 x.2.1 x.2.2.1 x.2.2.2.1 x.2.2.2.2.1 x.2.2.2.2.2.1 x.2.2.2.2.2.2.1 x.2.2.2.2.2.2.2 κ.1
def Gw28_PaperWide.fr506 : Fr := [(0, .sl 9), (1, .int .i64), (2, .bool), (7, .own 9), (9, .int .i64), (10, .int .i64)]
def Gw28_PaperWide.ou506 : Outs := [(1, [(0, .sl 9), (9, .int .i64)])]
def Gw28_PaperWide.T506 (k : Nat) (x : Gw28_PaperWide.fr506.T) (κ : Kp (Tp Gw28_PaperWide.rk) Gw28_PaperWide.ou506) : Option (Tp Gw28_PaperWide.rk) := Gw28_PaperWide.l506 k x.1 x.2.1 x.2.2.1 x.2.2.2.1 x.2.2.2.2.1 x.2.2.2.2.2 κ.1
def Gw28_PaperWide.Λ0 : Cuts (Tp Gw28_PaperWide.rk) := cutsOf []
def Gw28_PaperWide.Λ1 : Cuts (Tp Gw28_PaperWide.rk) := cutsOf [(259226, cut Tryd.prog Gw28_PaperWide.fr259226 Gw28_PaperWide.ou259226 (Gw28_PaperWide.T259226 NN))]
def Gw28_PaperWide.Λ : Cuts (Tp Gw28_PaperWide.rk) := cutsOf [(506, cut Tryd.prog Gw28_PaperWide.fr506 Gw28_PaperWide.ou506 (Gw28_PaperWide.T506 NN)), (259226, cut Tryd.prog Gw28_PaperWide.fr259226 Gw28_PaperWide.ou259226 (Gw28_PaperWide.T259226 NN))]
theorem Gw28_PaperWide.c259226 (A : Ks) (w0 : World) : CutOk Tryd.prog ⟨Tryd.f5.ntmps, 0, A⟩ w0 (kRet Tryd.prog Tryd.f5.results.toList Gw28_PaperWide.rk) (bodyOf Tryd.f5) 259226 (cut Tryd.prog Gw28_PaperWide.fr259226 Gw28_PaperWide.ou259226 (Gw28_PaperWide.T259226 NN)) :=
  loop_ok Gw28_PaperWide.hρ (Λ := Gw28_PaperWide.Λ0) (cuts_nil) (by kernel_rfl) (D := 64) (b := loopOf Tryd.f5 259226) (by kernel_rfl) (by kernel_rfl) NN (fun x κ => by kernel_rfl) (fun k x κ => by kernel_rfl)
theorem Gw28_PaperWide.c506 (A : Ks) (w0 : World) : CutOk Tryd.prog ⟨Tryd.f5.ntmps, 0, A⟩ w0 (kRet Tryd.prog Tryd.f5.results.toList Gw28_PaperWide.rk) (bodyOf Tryd.f5) 506 (cut Tryd.prog Gw28_PaperWide.fr506 Gw28_PaperWide.ou506 (Gw28_PaperWide.T506 NN)) :=
  loop_ok Gw28_PaperWide.hρ (Λ := Gw28_PaperWide.Λ1) (cuts_cons (Gw28_PaperWide.c259226 A w0) (cuts_nil)) (by kernel_rfl) (D := 64) (b := loopOf Tryd.f5 506) (by kernel_rfl) (by kernel_rfl) NN (fun x κ => by kernel_rfl) (fun k x κ => by kernel_rfl)
theorem Gw28_PaperWide.spec : Spec Tryd.prog 5 Gw28_PaperWide.pk Gw28_PaperWide.rk Gw28_PaperWide.g :=
  spec_of_body (fn := Tryd.f5) (c := bodyOf Tryd.f5) (by kernel_rfl) (by kernel_rfl) (by kernel_rfl) (by kernel_rfl) (ρ := Gw28_PaperWide.ρ) Gw28_PaperWide.hρ (Λ := Gw28_PaperWide.Λ) (fun A w0 => cuts_cons (Gw28_PaperWide.c506 A w0) (cuts_cons (Gw28_PaperWide.c259226 A w0) (cuts_nil))) (fun x => by kernel_rfl)

/-! ### 6 bluebell/bluebelllaw28.PaperAgain -/
def Gw28_PaperAgain.l506 : Nat → (List D) → Int → (List D) → (List D) → Int → ((List D × Int × List D × List D) → Option Bool) → Option Bool
  | 0, _, _, _, _, _, _ => none
  | k + 1, v0, v1, v5, v7, v8, κ1 =>
    bif decide (v8 < (v5.length : Int)) then gd (inB v8 v5.length) (gd (Nat.blt v8.toNat v5.length) ((Gpaper_Words.f ((rd v5 v8.toNat).str)).bind fun r5 => gd (Nat.ble (v7.length + r5.length) lim) (Gw28_PaperAgain.l506 k v0 v1 v5 (v7 ++ r5) (IntKind.i64.wrap (v8 + 1)) κ1))) else κ1 (v0, v1, v5, v7)
def Gw28_PaperAgain.f (a0 : List D) (a1 : Int) : Option Bool :=
  (Gw28_many.f a0).bind fun r1 => bif r1 then (Gw28_awake.f).bind fun r2 => some r2 else (Gpaper_Fill.f a0 a1 false).bind fun r3 => bif (r3.2 != 0) then (Gw28_awake.f).bind fun r4 => some r4 else Gw28_PaperAgain.l506 NN a0 a1 r3.1 [] 0 (fun y6 => (Gpaper_Fill.f y6.2.2.2 y6.2.1 false).bind fun r7 => (Gpaper_Fill.f y6.1 y6.2.1 true).bind fun r8 => (bif ((r7.2 == 0) && (r8.2 == 0)) then Gr00_EqStrings.f y6.2.2.1 r7.1 else some false).bind fun r9 => (bif ((((r7.2 == 0) && (r8.2 == 0)) && r9) && ((r8.1.length : Int) == (y6.2.2.1.length : Int))) then Gw28_awake.f else some false).bind fun r10 => some (((((r7.2 == 0) && (r8.2 == 0)) && r9) && ((r8.1.length : Int) == (y6.2.2.1.length : Int))) && r10))
def Gw28_PaperAgain.pk : List FK := [.sl 9, .int .i64]
def Gw28_PaperAgain.rk : List FK := [.bool]
def Gw28_PaperAgain.g : Tp Gw28_PaperAgain.pk → Option (Tp Gw28_PaperAgain.rk) := fun x => Gw28_PaperAgain.f x.1 x.2
def Gw28_PaperAgain.ρ : List (Entry (Tp Gw28_PaperAgain.rk)) := [entry _ Tryd.prog 13 Gw28_many.pk Gw28_many.rk Gw28_many.g, entry _ Tryd.prog 9 Gw28_awake.pk Gw28_awake.rk Gw28_awake.g, entry _ Tryd.prog 14 Gpaper_Fill.pk Gpaper_Fill.rk Gpaper_Fill.g, entry _ Tryd.prog 19 Gpaper_Words.pk Gpaper_Words.rk Gpaper_Words.g, entry _ Tryd.prog 18 Gr00_EqStrings.pk Gr00_EqStrings.rk Gr00_EqStrings.g]
theorem Gw28_PaperAgain.hρ : ∀ e ∈ Gw28_PaperAgain.ρ, EntryOk Tryd.prog e :=
  ents_cons (ent (fn := Tryd.f13) Gw28_many.spec (by kernel_rfl) (by kernel_rfl) (by kernel_rfl) (by kernel_rfl)) (ents_cons (ent (fn := Tryd.f9) Gw28_awake.spec (by kernel_rfl) (by kernel_rfl) (by kernel_rfl) (by kernel_rfl)) (ents_cons (ent (fn := Tryd.f14) Gpaper_Fill.spec (by kernel_rfl) (by kernel_rfl) (by kernel_rfl) (by kernel_rfl)) (ents_cons (ent (fn := Tryd.f19) Gpaper_Words.spec (by kernel_rfl) (by kernel_rfl) (by kernel_rfl) (by kernel_rfl)) (ents_cons (ent (fn := Tryd.f18) Gr00_EqStrings.spec (by kernel_rfl) (by kernel_rfl) (by kernel_rfl) (by kernel_rfl)) (ents_nil)))))
def Gw28_PaperAgain.fr506 : Fr := [(0, .sl 9), (1, .int .i64), (5, .own 9), (7, .own 9), (8, .int .i64)]
def Gw28_PaperAgain.ou506 : Outs := [(1, [(0, .sl 9), (1, .int .i64), (5, .own 9), (7, .own 9)])]
def Gw28_PaperAgain.T506 (k : Nat) (x : Gw28_PaperAgain.fr506.T) (κ : Kp (Tp Gw28_PaperAgain.rk) Gw28_PaperAgain.ou506) : Option (Tp Gw28_PaperAgain.rk) := Gw28_PaperAgain.l506 k x.1 x.2.1 x.2.2.1 x.2.2.2.1 x.2.2.2.2 κ.1
def Gw28_PaperAgain.Λ0 : Cuts (Tp Gw28_PaperAgain.rk) := cutsOf []
def Gw28_PaperAgain.Λ : Cuts (Tp Gw28_PaperAgain.rk) := cutsOf [(506, cut Tryd.prog Gw28_PaperAgain.fr506 Gw28_PaperAgain.ou506 (Gw28_PaperAgain.T506 NN))]
theorem Gw28_PaperAgain.c506 (A : Ks) (w0 : World) : CutOk Tryd.prog ⟨Tryd.f6.ntmps, 0, A⟩ w0 (kRet Tryd.prog Tryd.f6.results.toList Gw28_PaperAgain.rk) (bodyOf Tryd.f6) 506 (cut Tryd.prog Gw28_PaperAgain.fr506 Gw28_PaperAgain.ou506 (Gw28_PaperAgain.T506 NN)) :=
  loop_ok Gw28_PaperAgain.hρ (Λ := Gw28_PaperAgain.Λ0) (cuts_nil) (by kernel_rfl) (D := 64) (b := loopOf Tryd.f6 506) (by kernel_rfl) (by kernel_rfl) NN (fun x κ => by kernel_rfl) (fun k x κ => by kernel_rfl)
theorem Gw28_PaperAgain.spec : Spec Tryd.prog 6 Gw28_PaperAgain.pk Gw28_PaperAgain.rk Gw28_PaperAgain.g :=
  spec_of_body (fn := Tryd.f6) (c := bodyOf Tryd.f6) (by kernel_rfl) (by kernel_rfl) (by kernel_rfl) (by kernel_rfl) (ρ := Gw28_PaperAgain.ρ) Gw28_PaperAgain.hρ (Λ := Gw28_PaperAgain.Λ) (fun A w0 => cuts_cons (Gw28_PaperAgain.c506 A w0) (cuts_nil)) (fun x => by kernel_rfl)

/-! ### 20 bluebell/bluebellref28.Words -/
def Gr28_Words.l122 : Nat → ByteArray → (List D) → Int → Int → (List D → Option (List D)) → Option (List D)
  | 0, _, _, _, _, _ => none
  | k + 1, v0, v3, v4, v5, κ1 =>
    bif decide (v5 ≤ (v0.size : Int)) then gd ((!(decide (v5 < (v0.size : Int)))) || (inB v5 v0.size)) ((bif (decide (v5 < (v0.size : Int))) then Gr28_isWord.f (bt v0 v5.toNat) else some false).bind fun r1 => bif ((decide (v5 < (v0.size : Int))) && r1) then Gr28_Words.l122 k v0 v3 v4 (IntKind.i64.wrap (v5 + 1)) κ1 else bif decide (v5 > v4) then gd (decide (0 ≤ v4) && (decide (v4 ≤ v5) && decide (v5 ≤ (v0.size : Int)))) (gd (Nat.ble (v3.length + ([.s (v0.extract v4.toNat v5.toNat)] : List D).length) lim) (Gr28_Words.l122 k v0 (v3 ++ ([.s (v0.extract v4.toNat v5.toNat)] : List D)) (IntKind.i64.wrap (v5 + 1)) (IntKind.i64.wrap (v5 + 1)) κ1)) else Gr28_Words.l122 k v0 v3 (IntKind.i64.wrap (v5 + 1)) (IntKind.i64.wrap (v5 + 1)) κ1) else κ1 v3
def Gr28_Words.f (a0 : ByteArray) : Option (List D) :=
  Gr28_Words.l122 NN a0 [] 0 0 (fun y2 => some y2)
def Gr28_Words.pk : List FK := [.str]
def Gr28_Words.rk : List FK := [.own 9]
def Gr28_Words.g : Tp Gr28_Words.pk → Option (Tp Gr28_Words.rk) := fun x => Gr28_Words.f x
def Gr28_Words.ρ : List (Entry (Tp Gr28_Words.rk)) := [entry _ Tryd.prog 51 Gr28_isWord.pk Gr28_isWord.rk Gr28_isWord.g]
theorem Gr28_Words.hρ : ∀ e ∈ Gr28_Words.ρ, EntryOk Tryd.prog e :=
  ents_cons (ent (fn := Tryd.f51) Gr28_isWord.spec (by kernel_rfl) (by kernel_rfl) (by kernel_rfl) (by kernel_rfl)) (ents_nil)
def Gr28_Words.fr122 : Fr := [(0, .str), (3, .own 9), (4, .int .i64), (5, .int .i64)]
def Gr28_Words.ou122 : Outs := [(1, [(3, .own 9)])]
def Gr28_Words.T122 (k : Nat) (x : Gr28_Words.fr122.T) (κ : Kp (Tp Gr28_Words.rk) Gr28_Words.ou122) : Option (Tp Gr28_Words.rk) := Gr28_Words.l122 k x.1 x.2.1 x.2.2.1 x.2.2.2 κ.1
def Gr28_Words.Λ0 : Cuts (Tp Gr28_Words.rk) := cutsOf []
def Gr28_Words.Λ : Cuts (Tp Gr28_Words.rk) := cutsOf [(122, cut Tryd.prog Gr28_Words.fr122 Gr28_Words.ou122 (Gr28_Words.T122 NN))]
theorem Gr28_Words.c122 (A : Ks) (w0 : World) : CutOk Tryd.prog ⟨Tryd.f20.ntmps, 0, A⟩ w0 (kRet Tryd.prog Tryd.f20.results.toList Gr28_Words.rk) (bodyOf Tryd.f20) 122 (cut Tryd.prog Gr28_Words.fr122 Gr28_Words.ou122 (Gr28_Words.T122 NN)) :=
  loop_ok Gr28_Words.hρ (Λ := Gr28_Words.Λ0) (cuts_nil) (by kernel_rfl) (D := 64) (b := loopOf Tryd.f20 122) (by kernel_rfl) (by kernel_rfl) NN (fun x κ => by kernel_rfl) (fun k x κ => by kernel_rfl)
theorem Gr28_Words.spec : Spec Tryd.prog 20 Gr28_Words.pk Gr28_Words.rk Gr28_Words.g :=
  spec_of_body (fn := Tryd.f20) (c := bodyOf Tryd.f20) (by kernel_rfl) (by kernel_rfl) (by kernel_rfl) (by kernel_rfl) (ρ := Gr28_Words.ρ) Gr28_Words.hρ (Λ := Gr28_Words.Λ) (fun A w0 => cuts_cons (Gr28_Words.c122 A w0) (cuts_nil)) (fun x => by kernel_rfl)

/-! ### 21 bluebell/paper.Centre -/
def Gpaper_Centre.f (a0 : ByteArray) (a1 : Int) : Option ByteArray :=
  bif decide (a1 ≤ (a0.size : Int)) then some a0 else gd (!(2 == 0)) ((Gstrings_Repeat.f str20 (if (16777216 : Int) < (IntKind.i64.wrap ((IntKind.i64.wrap (a1 - (a0.size : Int))).tdiv 2)) then 16777216 else (IntKind.i64.wrap ((IntKind.i64.wrap (a1 - (a0.size : Int))).tdiv 2)))).bind fun r1 => gd (decide (r1.size + a0.size ≤ maxS)) (some (r1 ++ a0)))
def Gpaper_Centre.pk : List FK := [.str, .int .i64]
def Gpaper_Centre.rk : List FK := [.str]
def Gpaper_Centre.g : Tp Gpaper_Centre.pk → Option (Tp Gpaper_Centre.rk) := fun x => Gpaper_Centre.f x.1 x.2
def Gpaper_Centre.ρ : List (Entry (Tp Gpaper_Centre.rk)) := [entry _ Tryd.prog 46 Gstrings_Repeat.pk Gstrings_Repeat.rk Gstrings_Repeat.g]
theorem Gpaper_Centre.hρ : ∀ e ∈ Gpaper_Centre.ρ, EntryOk Tryd.prog e :=
  ents_cons (ent (fn := Tryd.f46) Gstrings_Repeat.spec (by kernel_rfl) (by kernel_rfl) (by kernel_rfl) (by kernel_rfl)) (ents_nil)
def Gpaper_Centre.Λ : Cuts (Tp Gpaper_Centre.rk) := cutsOf []
theorem Gpaper_Centre.spec : Spec Tryd.prog 21 Gpaper_Centre.pk Gpaper_Centre.rk Gpaper_Centre.g :=
  spec_of_body (fn := Tryd.f21) (c := bodyOf Tryd.f21) (by kernel_rfl) (by kernel_rfl) (by kernel_rfl) (by kernel_rfl) (ρ := Gpaper_Centre.ρ) Gpaper_Centre.hρ (Λ := Gpaper_Centre.Λ) (fun A w0 => cuts_nil) (fun x => by kernel_rfl)

/-! ### 22 bluebell/bluebellref28.Centre -/
def Gr28_Centre.f (a0 : ByteArray) (a1 : Int) : Option ByteArray :=
  bif decide (a1 ≤ (a0.size : Int)) then some a0 else gd (!(2 == 0)) ((Gr28_blanks.f (IntKind.i64.wrap ((IntKind.i64.wrap (a1 - (a0.size : Int))).tdiv 2))).bind fun r1 => gd (decide (r1.size + a0.size ≤ maxS)) (some (r1 ++ a0)))
def Gr28_Centre.pk : List FK := [.str, .int .i64]
def Gr28_Centre.rk : List FK := [.str]
def Gr28_Centre.g : Tp Gr28_Centre.pk → Option (Tp Gr28_Centre.rk) := fun x => Gr28_Centre.f x.1 x.2
def Gr28_Centre.ρ : List (Entry (Tp Gr28_Centre.rk)) := [entry _ Tryd.prog 52 Gr28_blanks.pk Gr28_blanks.rk Gr28_blanks.g]
theorem Gr28_Centre.hρ : ∀ e ∈ Gr28_Centre.ρ, EntryOk Tryd.prog e :=
  ents_cons (ent (fn := Tryd.f52) Gr28_blanks.spec (by kernel_rfl) (by kernel_rfl) (by kernel_rfl) (by kernel_rfl)) (ents_nil)
def Gr28_Centre.Λ : Cuts (Tp Gr28_Centre.rk) := cutsOf []
theorem Gr28_Centre.spec : Spec Tryd.prog 22 Gr28_Centre.pk Gr28_Centre.rk Gr28_Centre.g :=
  spec_of_body (fn := Tryd.f22) (c := bodyOf Tryd.f22) (by kernel_rfl) (by kernel_rfl) (by kernel_rfl) (by kernel_rfl) (ρ := Gr28_Centre.ρ) Gr28_Centre.hρ (Λ := Gr28_Centre.Λ) (fun A w0 => cuts_nil) (fun x => by kernel_rfl)

/-! ### 53 strings.SplitAfter -/
def Gstrings_SplitAfter.f (a0 : ByteArray) (a1 : ByteArray) : Option (List D) :=
  (Gstrings_genSplit.f a0 a1 (a1.size : Int) (-1)).bind fun r1 => some r1
def Gstrings_SplitAfter.pk : List FK := [.str, .str]
def Gstrings_SplitAfter.rk : List FK := [.own 9]
def Gstrings_SplitAfter.g : Tp Gstrings_SplitAfter.pk → Option (Tp Gstrings_SplitAfter.rk) := fun x => Gstrings_SplitAfter.f x.1 x.2
def Gstrings_SplitAfter.ρ : List (Entry (Tp Gstrings_SplitAfter.rk)) := [entry _ Tryd.prog 70 Gstrings_genSplit.pk Gstrings_genSplit.rk Gstrings_genSplit.g]
theorem Gstrings_SplitAfter.hρ : ∀ e ∈ Gstrings_SplitAfter.ρ, EntryOk Tryd.prog e :=
  ents_cons (ent (fn := Tryd.f70) Gstrings_genSplit.spec (by kernel_rfl) (by kernel_rfl) (by kernel_rfl) (by kernel_rfl)) (ents_nil)
def Gstrings_SplitAfter.Λ : Cuts (Tp Gstrings_SplitAfter.rk) := cutsOf []
theorem Gstrings_SplitAfter.spec : Spec Tryd.prog 53 Gstrings_SplitAfter.pk Gstrings_SplitAfter.rk Gstrings_SplitAfter.g :=
  spec_of_body (fn := Tryd.f53) (c := bodyOf Tryd.f53) (by kernel_rfl) (by kernel_rfl) (by kernel_rfl) (by kernel_rfl) (ρ := Gstrings_SplitAfter.ρ) Gstrings_SplitAfter.hρ (Λ := Gstrings_SplitAfter.Λ) (fun A w0 => cuts_nil) (fun x => by kernel_rfl)

/-! ### 85 internal/stringslite.HasSuffix -/
def Ginternal_stringslite_HasSuffix.f (a0 : ByteArray) (a1 : ByteArray) : Option Bool :=
  gd ((!(decide ((a0.size : Int) ≥ (a1.size : Int)))) || (decide (0 ≤ (IntKind.i64.wrap ((a0.size : Int) - (a1.size : Int)))) && decide ((IntKind.i64.wrap ((a0.size : Int) - (a1.size : Int))) ≤ (a0.size : Int)))) (some ((decide ((a0.size : Int) ≥ (a1.size : Int))) && ((a0.extract (IntKind.i64.wrap ((a0.size : Int) - (a1.size : Int))).toNat a0.size).toList == a1.toList)))
def Ginternal_stringslite_HasSuffix.pk : List FK := [.str, .str]
def Ginternal_stringslite_HasSuffix.rk : List FK := [.bool]
def Ginternal_stringslite_HasSuffix.g : Tp Ginternal_stringslite_HasSuffix.pk → Option (Tp Ginternal_stringslite_HasSuffix.rk) := fun x => Ginternal_stringslite_HasSuffix.f x.1 x.2
def Ginternal_stringslite_HasSuffix.ρ : List (Entry (Tp Ginternal_stringslite_HasSuffix.rk)) := []
theorem Ginternal_stringslite_HasSuffix.hρ : ∀ e ∈ Ginternal_stringslite_HasSuffix.ρ, EntryOk Tryd.prog e :=
  ents_nil
def Ginternal_stringslite_HasSuffix.Λ : Cuts (Tp Ginternal_stringslite_HasSuffix.rk) := cutsOf []
theorem Ginternal_stringslite_HasSuffix.spec : Spec Tryd.prog 85 Ginternal_stringslite_HasSuffix.pk Ginternal_stringslite_HasSuffix.rk Ginternal_stringslite_HasSuffix.g :=
  spec_of_body (fn := Tryd.f85) (c := bodyOf Tryd.f85) (by kernel_rfl) (by kernel_rfl) (by kernel_rfl) (by kernel_rfl) (ρ := Ginternal_stringslite_HasSuffix.ρ) Ginternal_stringslite_HasSuffix.hρ (Λ := Ginternal_stringslite_HasSuffix.Λ) (fun A w0 => cuts_nil) (fun x => by kernel_rfl)

/-! ### 71 internal/stringslite.TrimSuffix -/
def Ginternal_stringslite_TrimSuffix.f (a0 : ByteArray) (a1 : ByteArray) : Option ByteArray :=
  (Ginternal_stringslite_HasSuffix.f a0 a1).bind fun r1 => bif r1 then gd (decide (0 ≤ (IntKind.i64.wrap ((a0.size : Int) - (a1.size : Int)))) && decide ((IntKind.i64.wrap ((a0.size : Int) - (a1.size : Int))) ≤ (a0.size : Int))) (some (a0.extract 0 (IntKind.i64.wrap ((a0.size : Int) - (a1.size : Int))).toNat)) else some a0
def Ginternal_stringslite_TrimSuffix.pk : List FK := [.str, .str]
def Ginternal_stringslite_TrimSuffix.rk : List FK := [.str]
def Ginternal_stringslite_TrimSuffix.g : Tp Ginternal_stringslite_TrimSuffix.pk → Option (Tp Ginternal_stringslite_TrimSuffix.rk) := fun x => Ginternal_stringslite_TrimSuffix.f x.1 x.2
def Ginternal_stringslite_TrimSuffix.ρ : List (Entry (Tp Ginternal_stringslite_TrimSuffix.rk)) := [entry _ Tryd.prog 85 Ginternal_stringslite_HasSuffix.pk Ginternal_stringslite_HasSuffix.rk Ginternal_stringslite_HasSuffix.g]
theorem Ginternal_stringslite_TrimSuffix.hρ : ∀ e ∈ Ginternal_stringslite_TrimSuffix.ρ, EntryOk Tryd.prog e :=
  ents_cons (ent (fn := Tryd.f85) Ginternal_stringslite_HasSuffix.spec (by kernel_rfl) (by kernel_rfl) (by kernel_rfl) (by kernel_rfl)) (ents_nil)
def Ginternal_stringslite_TrimSuffix.Λ : Cuts (Tp Ginternal_stringslite_TrimSuffix.rk) := cutsOf []
theorem Ginternal_stringslite_TrimSuffix.spec : Spec Tryd.prog 71 Ginternal_stringslite_TrimSuffix.pk Ginternal_stringslite_TrimSuffix.rk Ginternal_stringslite_TrimSuffix.g :=
  spec_of_body (fn := Tryd.f71) (c := bodyOf Tryd.f71) (by kernel_rfl) (by kernel_rfl) (by kernel_rfl) (by kernel_rfl) (ρ := Ginternal_stringslite_TrimSuffix.ρ) Ginternal_stringslite_TrimSuffix.hρ (Λ := Ginternal_stringslite_TrimSuffix.Λ) (fun A w0 => cuts_nil) (fun x => by kernel_rfl)

/-! ### 54 strings.TrimSuffix -/
def Gstrings_TrimSuffix.f (a0 : ByteArray) (a1 : ByteArray) : Option ByteArray :=
  (Ginternal_stringslite_TrimSuffix.f a0 a1).bind fun r1 => some r1
def Gstrings_TrimSuffix.pk : List FK := [.str, .str]
def Gstrings_TrimSuffix.rk : List FK := [.str]
def Gstrings_TrimSuffix.g : Tp Gstrings_TrimSuffix.pk → Option (Tp Gstrings_TrimSuffix.rk) := fun x => Gstrings_TrimSuffix.f x.1 x.2
def Gstrings_TrimSuffix.ρ : List (Entry (Tp Gstrings_TrimSuffix.rk)) := [entry _ Tryd.prog 71 Ginternal_stringslite_TrimSuffix.pk Ginternal_stringslite_TrimSuffix.rk Ginternal_stringslite_TrimSuffix.g]
theorem Gstrings_TrimSuffix.hρ : ∀ e ∈ Gstrings_TrimSuffix.ρ, EntryOk Tryd.prog e :=
  ents_cons (ent (fn := Tryd.f71) Ginternal_stringslite_TrimSuffix.spec (by kernel_rfl) (by kernel_rfl) (by kernel_rfl) (by kernel_rfl)) (ents_nil)
def Gstrings_TrimSuffix.Λ : Cuts (Tp Gstrings_TrimSuffix.rk) := cutsOf []
theorem Gstrings_TrimSuffix.spec : Spec Tryd.prog 54 Gstrings_TrimSuffix.pk Gstrings_TrimSuffix.rk Gstrings_TrimSuffix.g :=
  spec_of_body (fn := Tryd.f54) (c := bodyOf Tryd.f54) (by kernel_rfl) (by kernel_rfl) (by kernel_rfl) (by kernel_rfl) (ρ := Gstrings_TrimSuffix.ρ) Gstrings_TrimSuffix.hρ (Λ := Gstrings_TrimSuffix.Λ) (fun A w0 => cuts_nil) (fun x => by kernel_rfl)

/-! ### 23 bluebell/paper.Pages -/
def Gpaper_Pages.l122 : Nat → (List D) → (List D) → (List D) → Int → Int → ((List D × List D) → Option (List D)) → Option (List D)
  | 0, _, _, _, _, _, _ => none
  | k + 1, v3, v4, v8, v9, v10, κ1 =>
    bif decide (v10 < v9) then gd (inB v10 v8.length) (gd (Nat.blt v10.toNat v8.length) ((Gstrings_TrimSuffix.f ((rd v8 v10.toNat).str) str0a).bind fun r2 => bif (r2.toList == str0c.toList) then (GBuilder_String.f v4).bind fun r3 => gd (Nat.ble (v3.length + ([.s r3.1] : List D).length) lim) ((GBuilder_Reset.f ()).bind fun r4 => Gpaper_Pages.l122 k (v3 ++ ([.s r3.1] : List D)) r4 v8 v9 (IntKind.i64.wrap (v10 + 1)) κ1) else (GBuilder_WriteString.f v4 ((rd v8 v10.toNat).str)).bind fun r5 => Gpaper_Pages.l122 k v3 r5.2.2 v8 v9 (IntKind.i64.wrap (v10 + 1)) κ1)) else κ1 (v3, v4)
def Gpaper_Pages.f (a0 : ByteArray) : Option (List D) :=
  (Gstrings_SplitAfter.f a0 str0a).bind fun r1 => Gpaper_Pages.l122 NN [] [] r1 (r1.length : Int) 0 (fun y6 => (GBuilder_String.f y6.2).bind fun r7 => gd (Nat.ble (y6.1.length + ([.s r7.1] : List D).length) lim) (some (y6.1 ++ ([.s r7.1] : List D))))
def Gpaper_Pages.pk : List FK := [.str]
def Gpaper_Pages.rk : List FK := [.own 9]
def Gpaper_Pages.g : Tp Gpaper_Pages.pk → Option (Tp Gpaper_Pages.rk) := fun x => Gpaper_Pages.f x
def Gpaper_Pages.ρ : List (Entry (Tp Gpaper_Pages.rk)) := [entry _ Tryd.prog 53 Gstrings_SplitAfter.pk Gstrings_SplitAfter.rk Gstrings_SplitAfter.g, entry _ Tryd.prog 54 Gstrings_TrimSuffix.pk Gstrings_TrimSuffix.rk Gstrings_TrimSuffix.g, entryIO _ Tryd.prog 47 GBuilder_String.pk GBuilder_String.rk [0] GBuilder_String.g, entryIO _ Tryd.prog 55 GBuilder_Reset.pk GBuilder_Reset.rk [0] GBuilder_Reset.g, entryIO _ Tryd.prog 45 GBuilder_WriteString.pk GBuilder_WriteString.rk [0] GBuilder_WriteString.g]
theorem Gpaper_Pages.hρ : ∀ e ∈ Gpaper_Pages.ρ, EntryOk Tryd.prog e :=
  ents_cons (ent (fn := Tryd.f53) Gstrings_SplitAfter.spec (by kernel_rfl) (by kernel_rfl) (by kernel_rfl) (by kernel_rfl)) (ents_cons (ent (fn := Tryd.f54) Gstrings_TrimSuffix.spec (by kernel_rfl) (by kernel_rfl) (by kernel_rfl) (by kernel_rfl)) (ents_cons (entIO (fn := Tryd.f47) GBuilder_String.spec (by kernel_rfl) (by kernel_rfl) (by kernel_rfl) (by kernel_rfl)) (ents_cons (entIO (fn := Tryd.f55) GBuilder_Reset.spec (by kernel_rfl) (by kernel_rfl) (by kernel_rfl) (by kernel_rfl)) (ents_cons (entIO (fn := Tryd.f45) GBuilder_WriteString.spec (by kernel_rfl) (by kernel_rfl) (by kernel_rfl) (by kernel_rfl)) (ents_nil)))))
def Gpaper_Pages.fr122 : Fr := [(3, .own 9), (4, .bd 68 (.own 5)), (8, .own 9), (9, .int .i64), (10, .int .i64)]
def Gpaper_Pages.ou122 : Outs := [(1, [(3, .own 9), (4, .bd 68 (.own 5))])]
def Gpaper_Pages.T122 (k : Nat) (x : Gpaper_Pages.fr122.T) (κ : Kp (Tp Gpaper_Pages.rk) Gpaper_Pages.ou122) : Option (Tp Gpaper_Pages.rk) := Gpaper_Pages.l122 k x.1 x.2.1 x.2.2.1 x.2.2.2.1 x.2.2.2.2 κ.1
def Gpaper_Pages.Λ0 : Cuts (Tp Gpaper_Pages.rk) := cutsOf []
def Gpaper_Pages.Λ : Cuts (Tp Gpaper_Pages.rk) := cutsOf [(122, cut Tryd.prog Gpaper_Pages.fr122 Gpaper_Pages.ou122 (Gpaper_Pages.T122 NN))]
theorem Gpaper_Pages.c122 (A : Ks) (w0 : World) : CutOk Tryd.prog ⟨Tryd.f23.ntmps, 0, A⟩ w0 (kRet Tryd.prog Tryd.f23.results.toList Gpaper_Pages.rk) (bodyOf Tryd.f23) 122 (cut Tryd.prog Gpaper_Pages.fr122 Gpaper_Pages.ou122 (Gpaper_Pages.T122 NN)) :=
  loop_ok Gpaper_Pages.hρ (Λ := Gpaper_Pages.Λ0) (cuts_nil) (by kernel_rfl) (D := 64) (b := loopOf Tryd.f23 122) (by kernel_rfl) (by kernel_rfl) NN (fun x κ => by kernel_rfl) (fun k x κ => by kernel_rfl)
theorem Gpaper_Pages.spec : Spec Tryd.prog 23 Gpaper_Pages.pk Gpaper_Pages.rk Gpaper_Pages.g :=
  spec_of_body (fn := Tryd.f23) (c := bodyOf Tryd.f23) (by kernel_rfl) (by kernel_rfl) (by kernel_rfl) (by kernel_rfl) (ρ := Gpaper_Pages.ρ) Gpaper_Pages.hρ (Λ := Gpaper_Pages.Λ) (fun A w0 => cuts_cons (Gpaper_Pages.c122 A w0) (cuts_nil)) (fun x => by kernel_rfl)

/-! ### 24 bluebell/bluebellref28.Pages -/
def Gr28_Pages.l3860 : Nat → ByteArray → (List D) → Int → Int → Int → ((ByteArray × List D × Int × Int × Int) → Option (List D)) → Option (List D)
  | 0, _, _, _, _, _, _ => none
  | k + 1, v0, v3, v4, v5, v6, κ3 =>
    gd ((!(decide (v6 < (v0.size : Int)))) || (inB v6 v0.size)) (bif ((decide (v6 < (v0.size : Int))) && ((bt v0 v6.toNat) != 10)) then Gr28_Pages.l3860 k v0 v3 v4 v5 (IntKind.i64.wrap (v6 + 1)) κ3 else κ3 (v0, v3, v4, v5, v6))
def Gr28_Pages.l60 : Nat → ByteArray → (List D) → Int → Int → ((ByteArray × List D × Int) → Option (List D)) → Option (List D)
  | 0, _, _, _, _, _ => none
  | k + 1, v0, v3, v4, v5, κ1 =>
    bif decide (v5 < (v0.size : Int)) then Gr28_Pages.l3860 NN v0 v3 v4 v5 v5 (fun y1 => gd (decide (0 ≤ y1.2.2.2.1) && (decide (y1.2.2.2.1 ≤ y1.2.2.2.2) && decide (y1.2.2.2.2 ≤ (y1.1.size : Int)))) (bif ((y1.1.extract y1.2.2.2.1.toNat y1.2.2.2.2.toNat).toList == str0c.toList) then gd (decide (0 ≤ y1.2.2.1) && (decide (y1.2.2.1 ≤ y1.2.2.2.1) && decide (y1.2.2.2.1 ≤ (y1.1.size : Int)))) (gd (Nat.ble (y1.2.1.length + ([.s (y1.1.extract y1.2.2.1.toNat y1.2.2.2.1.toNat)] : List D).length) lim) (Gr28_Pages.l60 k y1.1 (y1.2.1 ++ ([.s (y1.1.extract y1.2.2.1.toNat y1.2.2.2.1.toNat)] : List D)) (if (y1.1.size : Int) < (IntKind.i64.wrap (y1.2.2.2.2 + 1)) then (y1.1.size : Int) else (IntKind.i64.wrap (y1.2.2.2.2 + 1))) (IntKind.i64.wrap (y1.2.2.2.2 + 1)) κ1)) else Gr28_Pages.l60 k y1.1 y1.2.1 y1.2.2.1 (IntKind.i64.wrap (y1.2.2.2.2 + 1)) κ1)) else κ1 (v0, v3, v4)
def Gr28_Pages.f (a0 : ByteArray) : Option (List D) :=
  Gr28_Pages.l60 NN a0 [] 0 0 (fun y2 => gd (decide (0 ≤ y2.2.2) && decide (y2.2.2 ≤ (y2.1.size : Int))) (gd (Nat.ble (y2.2.1.length + ([.s (y2.1.extract y2.2.2.toNat y2.1.size)] : List D).length) lim) (some (y2.2.1 ++ ([.s (y2.1.extract y2.2.2.toNat y2.1.size)] : List D)))))
def Gr28_Pages.pk : List FK := [.str]
def Gr28_Pages.rk : List FK := [.own 9]
def Gr28_Pages.g : Tp Gr28_Pages.pk → Option (Tp Gr28_Pages.rk) := fun x => Gr28_Pages.f x
def Gr28_Pages.ρ : List (Entry (Tp Gr28_Pages.rk)) := []
theorem Gr28_Pages.hρ : ∀ e ∈ Gr28_Pages.ρ, EntryOk Tryd.prog e :=
  ents_nil
def Gr28_Pages.fr3860 : Fr := [(0, .str), (3, .own 9), (4, .int .i64), (5, .int .i64), (6, .int .i64)]
def Gr28_Pages.ou3860 : Outs := [(3, [(0, .str), (3, .own 9), (4, .int .i64), (5, .int .i64), (6, .int .i64)])]
def Gr28_Pages.T3860 (k : Nat) (x : Gr28_Pages.fr3860.T) (κ : Kp (Tp Gr28_Pages.rk) Gr28_Pages.ou3860) : Option (Tp Gr28_Pages.rk) := Gr28_Pages.l3860 k x.1 x.2.1 x.2.2.1 x.2.2.2.1 x.2.2.2.2 κ.1
def Gr28_Pages.fr60 : Fr := [(0, .str), (3, .own 9), (4, .int .i64), (5, .int .i64)]
def Gr28_Pages.ou60 : Outs := [(1, [(0, .str), (3, .own 9), (4, .int .i64)])]
def Gr28_Pages.T60 (k : Nat) (x : Gr28_Pages.fr60.T) (κ : Kp (Tp Gr28_Pages.rk) Gr28_Pages.ou60) : Option (Tp Gr28_Pages.rk) := Gr28_Pages.l60 k x.1 x.2.1 x.2.2.1 x.2.2.2 κ.1
def Gr28_Pages.Λ0 : Cuts (Tp Gr28_Pages.rk) := cutsOf []
def Gr28_Pages.Λ1 : Cuts (Tp Gr28_Pages.rk) := cutsOf [(3860, cut Tryd.prog Gr28_Pages.fr3860 Gr28_Pages.ou3860 (Gr28_Pages.T3860 NN))]
def Gr28_Pages.Λ : Cuts (Tp Gr28_Pages.rk) := cutsOf [(60, cut Tryd.prog Gr28_Pages.fr60 Gr28_Pages.ou60 (Gr28_Pages.T60 NN)), (3860, cut Tryd.prog Gr28_Pages.fr3860 Gr28_Pages.ou3860 (Gr28_Pages.T3860 NN))]
theorem Gr28_Pages.c3860 (A : Ks) (w0 : World) : CutOk Tryd.prog ⟨Tryd.f24.ntmps, 0, A⟩ w0 (kRet Tryd.prog Tryd.f24.results.toList Gr28_Pages.rk) (bodyOf Tryd.f24) 3860 (cut Tryd.prog Gr28_Pages.fr3860 Gr28_Pages.ou3860 (Gr28_Pages.T3860 NN)) :=
  loop_ok Gr28_Pages.hρ (Λ := Gr28_Pages.Λ0) (cuts_nil) (by kernel_rfl) (D := 64) (b := loopOf Tryd.f24 3860) (by kernel_rfl) (by kernel_rfl) NN (fun x κ => by kernel_rfl) (fun k x κ => by kernel_rfl)
theorem Gr28_Pages.c60 (A : Ks) (w0 : World) : CutOk Tryd.prog ⟨Tryd.f24.ntmps, 0, A⟩ w0 (kRet Tryd.prog Tryd.f24.results.toList Gr28_Pages.rk) (bodyOf Tryd.f24) 60 (cut Tryd.prog Gr28_Pages.fr60 Gr28_Pages.ou60 (Gr28_Pages.T60 NN)) :=
  loop_ok Gr28_Pages.hρ (Λ := Gr28_Pages.Λ1) (cuts_cons (Gr28_Pages.c3860 A w0) (cuts_nil)) (by kernel_rfl) (D := 64) (b := loopOf Tryd.f24 60) (by kernel_rfl) (by kernel_rfl) NN (fun x κ => by kernel_rfl) (fun k x κ => by kernel_rfl)
theorem Gr28_Pages.spec : Spec Tryd.prog 24 Gr28_Pages.pk Gr28_Pages.rk Gr28_Pages.g :=
  spec_of_body (fn := Tryd.f24) (c := bodyOf Tryd.f24) (by kernel_rfl) (by kernel_rfl) (by kernel_rfl) (by kernel_rfl) (ρ := Gr28_Pages.ρ) Gr28_Pages.hρ (Λ := Gr28_Pages.Λ) (fun A w0 => cuts_cons (Gr28_Pages.c60 A w0) (cuts_cons (Gr28_Pages.c3860 A w0) (cuts_nil))) (fun x => by kernel_rfl)

/-! ### 7 bluebell/bluebelllaw28.PaperCuts -/
def Gw28_PaperCuts.f (a0 : ByteArray) (a1 : Int) : Option Bool :=
  bif ((decide ((a0.size : Int) > 50000)) || (decide (a1 > 5000))) then (Gw28_awake.f).bind fun r1 => some r1 else (Gpaper_Words.f a0).bind fun r2 => (Gr28_Words.f a0).bind fun r3 => (Gr00_EqStrings.f r2 r3).bind fun r4 => (bif r4 then Gpaper_Centre.f a0 a1 else some ByteArray.empty).bind fun r5 => (bif r4 then Gr28_Centre.f a0 a1 else some ByteArray.empty).bind fun r6 => bif (r4 && (r5.toList == r6.toList)) then (Gpaper_Pages.f a0).bind fun r7 => (Gr28_Pages.f a0).bind fun r8 => (Gr00_EqStrings.f r7 r8).bind fun r9 => (bif r9 then Gw28_awake.f else some false).bind fun r10 => some (r9 && r10) else (bif false then Gw28_awake.f else some false).bind fun r11 => some false
def Gw28_PaperCuts.pk : List FK := [.str, .int .i64]
def Gw28_PaperCuts.rk : List FK := [.bool]
def Gw28_PaperCuts.g : Tp Gw28_PaperCuts.pk → Option (Tp Gw28_PaperCuts.rk) := fun x => Gw28_PaperCuts.f x.1 x.2
def Gw28_PaperCuts.ρ : List (Entry (Tp Gw28_PaperCuts.rk)) := [entry _ Tryd.prog 9 Gw28_awake.pk Gw28_awake.rk Gw28_awake.g, entry _ Tryd.prog 19 Gpaper_Words.pk Gpaper_Words.rk Gpaper_Words.g, entry _ Tryd.prog 20 Gr28_Words.pk Gr28_Words.rk Gr28_Words.g, entry _ Tryd.prog 18 Gr00_EqStrings.pk Gr00_EqStrings.rk Gr00_EqStrings.g, entry _ Tryd.prog 21 Gpaper_Centre.pk Gpaper_Centre.rk Gpaper_Centre.g, entry _ Tryd.prog 22 Gr28_Centre.pk Gr28_Centre.rk Gr28_Centre.g, entry _ Tryd.prog 23 Gpaper_Pages.pk Gpaper_Pages.rk Gpaper_Pages.g, entry _ Tryd.prog 24 Gr28_Pages.pk Gr28_Pages.rk Gr28_Pages.g]
theorem Gw28_PaperCuts.hρ : ∀ e ∈ Gw28_PaperCuts.ρ, EntryOk Tryd.prog e :=
  ents_cons (ent (fn := Tryd.f9) Gw28_awake.spec (by kernel_rfl) (by kernel_rfl) (by kernel_rfl) (by kernel_rfl)) (ents_cons (ent (fn := Tryd.f19) Gpaper_Words.spec (by kernel_rfl) (by kernel_rfl) (by kernel_rfl) (by kernel_rfl)) (ents_cons (ent (fn := Tryd.f20) Gr28_Words.spec (by kernel_rfl) (by kernel_rfl) (by kernel_rfl) (by kernel_rfl)) (ents_cons (ent (fn := Tryd.f18) Gr00_EqStrings.spec (by kernel_rfl) (by kernel_rfl) (by kernel_rfl) (by kernel_rfl)) (ents_cons (ent (fn := Tryd.f21) Gpaper_Centre.spec (by kernel_rfl) (by kernel_rfl) (by kernel_rfl) (by kernel_rfl)) (ents_cons (ent (fn := Tryd.f22) Gr28_Centre.spec (by kernel_rfl) (by kernel_rfl) (by kernel_rfl) (by kernel_rfl)) (ents_cons (ent (fn := Tryd.f23) Gpaper_Pages.spec (by kernel_rfl) (by kernel_rfl) (by kernel_rfl) (by kernel_rfl)) (ents_cons (ent (fn := Tryd.f24) Gr28_Pages.spec (by kernel_rfl) (by kernel_rfl) (by kernel_rfl) (by kernel_rfl)) (ents_nil))))))))
def Gw28_PaperCuts.Λ : Cuts (Tp Gw28_PaperCuts.rk) := cutsOf []
theorem Gw28_PaperCuts.spec : Spec Tryd.prog 7 Gw28_PaperCuts.pk Gw28_PaperCuts.rk Gw28_PaperCuts.g :=
  spec_of_body (fn := Tryd.f7) (c := bodyOf Tryd.f7) (by kernel_rfl) (by kernel_rfl) (by kernel_rfl) (by kernel_rfl) (ρ := Gw28_PaperCuts.ρ) Gw28_PaperCuts.hρ (Λ := Gw28_PaperCuts.Λ) (fun A w0 => cuts_nil) (fun x => by kernel_rfl)
end
end Go.Pv
