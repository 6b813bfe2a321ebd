/- The program's functions as functions of data, and their contracts. -/
import Derived.Test.YtjlnbhdmbfofdaaDoorPLxC
import Derived.Test.YtjlnbhdmbfofdaaDoorPLxHPvH3
import Derived.Test.YtjlnbhdmbfofdaaDoorProg
set_option linter.unusedVariables false
set_option linter.unusedSimpArgs false
set_option maxRecDepth 100000
namespace Go.Pv
noncomputable section
open Go.Proofs
def strhec28f7c6b9b145d9 : ByteArray := ⟨#[97, 110, 100, 32, 98, 101, 32, 98, 114, 101, 97, 107, 32, 98, 121, 32, 99, 97, 115, 101, 32, 100, 101, 102, 97, 117, 108, 116, 32, 100, 111, 32, 101, 108, 115, 101, 32, 101, 110, 100, 99, 97, 115, 101, 32, 101, 113, 118, 32, 102, 97, 108, 115, 101, 32, 102, 105, 110, 105, 115, 104, 32, 102, 111, 114, 32, 103, 108, 111, 98, 97, 108, 32, 103, 111, 116, 111, 32, 105, 102, 32, 105, 110, 116, 111, 32, 108, 101, 116, 32, 108, 111, 111, 112, 32, 109, 97, 110, 105, 102, 101, 115, 116, 32, 111, 102, 32, 111, 114, 32, 114, 101, 109, 32, 114, 101, 112, 101, 97, 116, 32, 114, 101, 112, 101, 97, 116, 117, 110, 116, 105, 108, 32, 114, 101, 112, 101, 97, 116, 119, 104, 105, 108, 101, 32, 114, 101, 115, 117, 108, 116, 105, 115, 32, 114, 101, 116, 117, 114, 110, 32, 115, 101, 99, 116, 105, 111, 110, 32, 115, 108, 99, 116, 32, 115, 116, 97, 116, 105, 99, 32, 115, 119, 105, 116, 99, 104, 111, 110, 32, 116, 97, 98, 108, 101, 32, 116, 101, 115, 116, 32, 116, 104, 101, 110, 32, 116, 111, 32, 116, 114, 117, 101, 32, 117, 110, 108, 101, 115, 115, 32, 117, 110, 116, 105, 108, 32, 118, 97, 108, 111, 102, 32, 118, 101, 99, 32, 119, 104, 105, 108, 101, 32, 120, 111, 114]⟩
def str2f2f : ByteArray := ⟨#[47, 47]⟩
def strh31e994760f40ef52 : ByteArray := ⟨#[40, 32, 41, 32, 123, 32, 125, 32, 44, 32, 59, 32, 58, 32, 33, 32, 37, 32, 64, 32, 43, 32, 45, 32, 42, 32, 47, 32, 38, 32, 124, 32, 126, 32, 63, 32, 61, 32, 126, 61, 32, 60, 32, 60, 61, 32, 62, 32, 62, 61, 32, 60, 60, 32, 62, 62, 32, 58, 61, 32, 45, 62]⟩
def strNil : ByteArray := ⟨#[]⟩
def str506172736555696e74 : ByteArray := ⟨#[80, 97, 114, 115, 101, 85, 105, 110, 116]⟩
def str6e74732a2722 : ByteArray := ⟨#[110, 116, 115, 42, 39, 34]⟩
def str0a09202a2722 : ByteArray := ⟨#[10, 9, 32, 42, 39, 34]⟩
def str616e64 : ByteArray := ⟨#[97, 110, 100]⟩
def str6265 : ByteArray := ⟨#[98, 101]⟩
def str627265616b : ByteArray := ⟨#[98, 114, 101, 97, 107]⟩
def str6279 : ByteArray := ⟨#[98, 121]⟩
def str63617365 : ByteArray := ⟨#[99, 97, 115, 101]⟩
def str64656661756c74 : ByteArray := ⟨#[100, 101, 102, 97, 117, 108, 116]⟩
def str646f : ByteArray := ⟨#[100, 111]⟩
def str656c7365 : ByteArray := ⟨#[101, 108, 115, 101]⟩
def str656e6463617365 : ByteArray := ⟨#[101, 110, 100, 99, 97, 115, 101]⟩
def str657176 : ByteArray := ⟨#[101, 113, 118]⟩
def str66616c7365 : ByteArray := ⟨#[102, 97, 108, 115, 101]⟩
def str66696e697368 : ByteArray := ⟨#[102, 105, 110, 105, 115, 104]⟩
def str666f72 : ByteArray := ⟨#[102, 111, 114]⟩
def str676c6f62616c : ByteArray := ⟨#[103, 108, 111, 98, 97, 108]⟩
def str676f746f : ByteArray := ⟨#[103, 111, 116, 111]⟩
def str6966 : ByteArray := ⟨#[105, 102]⟩
def str696e746f : ByteArray := ⟨#[105, 110, 116, 111]⟩
def str6c6574 : ByteArray := ⟨#[108, 101, 116]⟩
def str6c6f6f70 : ByteArray := ⟨#[108, 111, 111, 112]⟩
def str6d616e6966657374 : ByteArray := ⟨#[109, 97, 110, 105, 102, 101, 115, 116]⟩
def str6f66 : ByteArray := ⟨#[111, 102]⟩
def str6f72 : ByteArray := ⟨#[111, 114]⟩
def str72656d : ByteArray := ⟨#[114, 101, 109]⟩
def str726570656174 : ByteArray := ⟨#[114, 101, 112, 101, 97, 116]⟩
def str726570656174756e74696c : ByteArray := ⟨#[114, 101, 112, 101, 97, 116, 117, 110, 116, 105, 108]⟩
def str7265706561747768696c65 : ByteArray := ⟨#[114, 101, 112, 101, 97, 116, 119, 104, 105, 108, 101]⟩
def str726573756c746973 : ByteArray := ⟨#[114, 101, 115, 117, 108, 116, 105, 115]⟩
def str72657475726e : ByteArray := ⟨#[114, 101, 116, 117, 114, 110]⟩
def str73656374696f6e : ByteArray := ⟨#[115, 101, 99, 116, 105, 111, 110]⟩
def str736c6374 : ByteArray := ⟨#[115, 108, 99, 116]⟩
def str737461746963 : ByteArray := ⟨#[115, 116, 97, 116, 105, 99]⟩
def str7377697463686f6e : ByteArray := ⟨#[115, 119, 105, 116, 99, 104, 111, 110]⟩
def str7461626c65 : ByteArray := ⟨#[116, 97, 98, 108, 101]⟩
def str74657374 : ByteArray := ⟨#[116, 101, 115, 116]⟩
def str7468656e : ByteArray := ⟨#[116, 104, 101, 110]⟩
def str746f : ByteArray := ⟨#[116, 111]⟩
def str74727565 : ByteArray := ⟨#[116, 114, 117, 101]⟩
def str756e6c657373 : ByteArray := ⟨#[117, 110, 108, 101, 115, 115]⟩
def str756e74696c : ByteArray := ⟨#[117, 110, 116, 105, 108]⟩
def str76616c6f66 : ByteArray := ⟨#[118, 97, 108, 111, 102]⟩
def str766563 : ByteArray := ⟨#[118, 101, 99]⟩
def str7768696c65 : ByteArray := ⟨#[119, 104, 105, 108, 101]⟩
def str786f72 : ByteArray := ⟨#[120, 111, 114]⟩
def str28 : ByteArray := ⟨#[40]⟩
def str29 : ByteArray := ⟨#[41]⟩
def str7b : ByteArray := ⟨#[123]⟩
def str7d : ByteArray := ⟨#[125]⟩
def str2c : ByteArray := ⟨#[44]⟩
def str3b : ByteArray := ⟨#[59]⟩
def str3a : ByteArray := ⟨#[58]⟩
def str21 : ByteArray := ⟨#[33]⟩
def str25 : ByteArray := ⟨#[37]⟩
def str40 : ByteArray := ⟨#[64]⟩
def str2b : ByteArray := ⟨#[43]⟩
def str2d : ByteArray := ⟨#[45]⟩
def str2a : ByteArray := ⟨#[42]⟩
def str2f : ByteArray := ⟨#[47]⟩
def str26 : ByteArray := ⟨#[38]⟩
def str7c : ByteArray := ⟨#[124]⟩
def str7e : ByteArray := ⟨#[126]⟩
def str3f : ByteArray := ⟨#[63]⟩
def str3d : ByteArray := ⟨#[61]⟩
def str7e3d : ByteArray := ⟨#[126, 61]⟩
def str3c : ByteArray := ⟨#[60]⟩
def str3c3d : ByteArray := ⟨#[60, 61]⟩
def str3e : ByteArray := ⟨#[62]⟩
def str3e3d : ByteArray := ⟨#[62, 61]⟩
def str3c3c : ByteArray := ⟨#[60, 60]⟩
def str3e3e : ByteArray := ⟨#[62, 62]⟩
def str3a3d : ByteArray := ⟨#[58, 61]⟩
def str2d3e : ByteArray := ⟨#[45, 62]⟩
def str783a3d236666 : ByteArray := ⟨#[120, 58, 61, 35, 102, 102]⟩
def str78 : ByteArray := ⟨#[120]⟩
def str0a : ByteArray := ⟨#[10]⟩
def str09202f2f2a200a : ByteArray := ⟨#[9, 32, 47, 47, 42, 32, 10]⟩
def str22 : ByteArray := ⟨#[34]⟩
def str2a6e : ByteArray := ⟨#[42, 110]⟩
def str2a74 : ByteArray := ⟨#[42, 116]⟩
def str23 : ByteArray := ⟨#[35]⟩
def str30313233343536373839616263646566 : ByteArray := ⟨#[48, 49, 50, 51, 52, 53, 54, 55, 56, 57, 97, 98, 99, 100, 101, 102]⟩
def str20 : ByteArray := ⟨#[32]⟩

/-! ### 15 bluebell/lex.Keys -/
def Glex_Keys.f : Option (List D) :=
  (Gstrings_Fields.f strhec28f7c6b9b145d9).bind fun r1 => some r1
def Glex_Keys.pk : List FK := []
def Glex_Keys.rk : List FK := [.own 9]
def Glex_Keys.g : Tp Glex_Keys.pk → Option (Tp Glex_Keys.rk) := fun _ => Glex_Keys.f
def Glex_Keys.ρ : List (Entry (Tp Glex_Keys.rk)) := [entry _ Tryd.prog 34 Gstrings_Fields.pk Gstrings_Fields.rk Gstrings_Fields.g]
theorem Glex_Keys.hρ : ∀ e ∈ Glex_Keys.ρ, EntryOk Tryd.prog e :=
  ents_cons (ent (fn := Tryd.f34) Gstrings_Fields.spec (by kernel_rfl) (by kernel_rfl) (by kernel_rfl) (by kernel_rfl)) (ents_nil)
def Glex_Keys.Λ : Cuts (Tp Glex_Keys.rk) := cutsOf []
theorem Glex_Keys.spec : Spec Tryd.prog 15 Glex_Keys.pk Glex_Keys.rk Glex_Keys.g :=
  spec_of_body (fn := Tryd.f15) (c := bodyOf Tryd.f15) (by kernel_rfl) (by kernel_rfl) (by kernel_rfl) (by kernel_rfl) (ρ := Glex_Keys.ρ) Glex_Keys.hρ (Λ := Glex_Keys.Λ) (fun A w0 => cuts_nil) (fun x => by kernel_rfl)

/-! ### 37 bluebell/lex.keys -/
def Glex_keys.l58 : Nat → (List (D × D)) → (List D) → Int → Int → ((List (D × D)) → Option (List (D × D))) → Option (List (D × D))
  | 0, _, _, _, _, _ => none
  | k + 1, v1, v5, v6, v7, κ1 =>
    bif decide (v7 < v6) then gd (inB v7 v5.length) (gd (Nat.blt v7.toNat v5.length) (gd ((decide (((rd v5 v7.toNat).str).size ≤ maxS)) && Nat.blt v1.length lim) (Glex_keys.l58 k ((.s ((rd v5 v7.toNat).str), .b true) :: v1) v5 v6 (IntKind.i64.wrap (v7 + 1)) κ1))) else κ1 v1
def Glex_keys.f : Option (List (D × D)) :=
  (Glex_Keys.f).bind fun r1 => Glex_keys.l58 NN ([] : List (D × D)) r1 (r1.length : Int) 0 (fun y2 => some y2)
def Glex_keys.pk : List FK := []
def Glex_keys.rk : List FK := [.mp 9 4]
def Glex_keys.g : Tp Glex_keys.pk → Option (Tp Glex_keys.rk) := fun _ => Glex_keys.f
def Glex_keys.ρ : List (Entry (Tp Glex_keys.rk)) := [entry _ Tryd.prog 15 Glex_Keys.pk Glex_Keys.rk Glex_Keys.g]
theorem Glex_keys.hρ : ∀ e ∈ Glex_keys.ρ, EntryOk Tryd.prog e :=
  ents_cons (ent (fn := Tryd.f15) Glex_Keys.spec (by kernel_rfl) (by kernel_rfl) (by kernel_rfl) (by kernel_rfl)) (ents_nil)
def Glex_keys.fr58 : Fr := [(1, .mp 9 4), (5, .own 9), (6, .int .i64), (7, .int .i64)]
def Glex_keys.ou58 : Outs := [(1, [(1, .mp 9 4)])]
def Glex_keys.T58 (k : Nat) (x : Glex_keys.fr58.T) (κ : Kp (Tp Glex_keys.rk) Glex_keys.ou58) : Option (Tp Glex_keys.rk) := Glex_keys.l58 k x.1 x.2.1 x.2.2.1 x.2.2.2 κ.1
def Glex_keys.Λ0 : Cuts (Tp Glex_keys.rk) := cutsOf []
def Glex_keys.Λ : Cuts (Tp Glex_keys.rk) := cutsOf [(58, cut Tryd.prog Glex_keys.fr58 Glex_keys.ou58 (Glex_keys.T58 NN))]
theorem Glex_keys.c58 (A : Ks) (w0 : World) : CutOk Tryd.prog ⟨Tryd.f37.ntmps, 0, A⟩ w0 (kRet Tryd.prog Tryd.f37.results.toList Glex_keys.rk) (bodyOf Tryd.f37) 58 (cut Tryd.prog Glex_keys.fr58 Glex_keys.ou58 (Glex_keys.T58 NN)) :=
  loop_ok Glex_keys.hρ (Λ := Glex_keys.Λ0) (cuts_nil) (by kernel_rfl) (D := 64) (b := loopOf Tryd.f37 58) (by kernel_rfl) (by kernel_rfl) NN (fun x κ => by kernel_rfl) (fun k x κ => by kernel_rfl)
theorem Glex_keys.spec : Spec Tryd.prog 37 Glex_keys.pk Glex_keys.rk Glex_keys.g :=
  spec_of_body (fn := Tryd.f37) (c := bodyOf Tryd.f37) (by kernel_rfl) (by kernel_rfl) (by kernel_rfl) (by kernel_rfl) (ρ := Glex_keys.ρ) Glex_keys.hρ (Λ := Glex_keys.Λ) (fun A w0 => cuts_cons (Glex_keys.c58 A w0) (cuts_nil)) (fun x => by kernel_rfl)

/-! ### 83 internal/stringslite.HasPrefix -/
def Ginternal_stringslite_HasPrefix.f (a0 : ByteArray) (a1 : ByteArray) : Option Bool :=
  gd ((!(decide ((a0.size : Int) ≥ (a1.size : Int)))) || (decide (0 ≤ (a1.size : Int)) && decide ((a1.size : Int) ≤ (a0.size : Int)))) (some ((decide ((a0.size : Int) ≥ (a1.size : Int))) && ((a0.extract 0 (a1.size : Int).toNat).toList == a1.toList)))
def Ginternal_stringslite_HasPrefix.pk : List FK := [.str, .str]
def Ginternal_stringslite_HasPrefix.rk : List FK := [.bool]
def Ginternal_stringslite_HasPrefix.g : Tp Ginternal_stringslite_HasPrefix.pk → Option (Tp Ginternal_stringslite_HasPrefix.rk) := fun x => Ginternal_stringslite_HasPrefix.f x.1 x.2
def Ginternal_stringslite_HasPrefix.ρ : List (Entry (Tp Ginternal_stringslite_HasPrefix.rk)) := []
theorem Ginternal_stringslite_HasPrefix.hρ : ∀ e ∈ Ginternal_stringslite_HasPrefix.ρ, EntryOk Tryd.prog e :=
  ents_nil
def Ginternal_stringslite_HasPrefix.Λ : Cuts (Tp Ginternal_stringslite_HasPrefix.rk) := cutsOf []
theorem Ginternal_stringslite_HasPrefix.spec : Spec Tryd.prog 83 Ginternal_stringslite_HasPrefix.pk Ginternal_stringslite_HasPrefix.rk Ginternal_stringslite_HasPrefix.g :=
  spec_of_body (fn := Tryd.f83) (c := bodyOf Tryd.f83) (by kernel_rfl) (by kernel_rfl) (by kernel_rfl) (by kernel_rfl) (ρ := Ginternal_stringslite_HasPrefix.ρ) Ginternal_stringslite_HasPrefix.hρ (Λ := Ginternal_stringslite_HasPrefix.Λ) (fun A w0 => cuts_nil) (fun x => by kernel_rfl)

/-! ### 60 strings.HasPrefix -/
def Gstrings_HasPrefix.f (a0 : ByteArray) (a1 : ByteArray) : Option Bool :=
  (Ginternal_stringslite_HasPrefix.f a0 a1).bind fun r1 => some r1
def Gstrings_HasPrefix.pk : List FK := [.str, .str]
def Gstrings_HasPrefix.rk : List FK := [.bool]
def Gstrings_HasPrefix.g : Tp Gstrings_HasPrefix.pk → Option (Tp Gstrings_HasPrefix.rk) := fun x => Gstrings_HasPrefix.f x.1 x.2
def Gstrings_HasPrefix.ρ : List (Entry (Tp Gstrings_HasPrefix.rk)) := [entry _ Tryd.prog 83 Ginternal_stringslite_HasPrefix.pk Ginternal_stringslite_HasPrefix.rk Ginternal_stringslite_HasPrefix.g]
theorem Gstrings_HasPrefix.hρ : ∀ e ∈ Gstrings_HasPrefix.ρ, EntryOk Tryd.prog e :=
  ents_cons (ent (fn := Tryd.f83) Ginternal_stringslite_HasPrefix.spec (by kernel_rfl) (by kernel_rfl) (by kernel_rfl) (by kernel_rfl)) (ents_nil)
def Gstrings_HasPrefix.Λ : Cuts (Tp Gstrings_HasPrefix.rk) := cutsOf []
theorem Gstrings_HasPrefix.spec : Spec Tryd.prog 60 Gstrings_HasPrefix.pk Gstrings_HasPrefix.rk Gstrings_HasPrefix.g :=
  spec_of_body (fn := Tryd.f60) (c := bodyOf Tryd.f60) (by kernel_rfl) (by kernel_rfl) (by kernel_rfl) (by kernel_rfl) (ρ := Gstrings_HasPrefix.ρ) Gstrings_HasPrefix.hρ (Λ := Gstrings_HasPrefix.Λ) (fun A w0 => cuts_nil) (fun x => by kernel_rfl)

/-! ### 41 (*bluebell/lex.scanner).skip -/
def Glex_scanner__skip.p4795 (v0 : (ByteArray × Int × List (D × D) × Unit)) (v3 : Int) (κ0 : (ByteArray × Int × List (D × D) × Unit) → Option (ByteArray × Int × List (D × D) × Unit)) : Option (ByteArray × Int × List (D × D) × Unit) :=
  κ0 (v0.1, (IntKind.i64.wrap (v0.2.1 + v3)), v0.2.2.1, ())
def Glex_scanner__skip.l2 : Nat → ((ByteArray × Int × List (D × D) × Unit)) → ((ByteArray × Int × List (D × D) × Unit) → Option (ByteArray × Int × List (D × D) × Unit)) → Option (ByteArray × Int × List (D × D) × Unit)
  | 0, _, _ => none
  | k + 1, v0, κ1 =>
    bif decide (v0.2.1 < (v0.1.size : Int)) then gd (inB v0.2.1 v0.1.size) (bif ((((bt v0.1 v0.2.1.toNat) == 32) || ((bt v0.1 v0.2.1.toNat) == 9)) || ((bt v0.1 v0.2.1.toNat) == 10)) then Glex_scanner__skip.l2 k (v0.1, (IntKind.i64.wrap (v0.2.1 + 1)), v0.2.2.1, ()) κ1 else gd (decide (0 ≤ v0.2.1) && decide (v0.2.1 ≤ (v0.1.size : Int))) ((Gstrings_HasPrefix.f (v0.1.extract v0.2.1.toNat v0.1.size) str2f2f).bind fun r1 => bif r1 then gd (decide (0 ≤ v0.2.1) && decide (v0.2.1 ≤ (v0.1.size : Int))) ((Gstrings_IndexByte.f (v0.1.extract v0.2.1.toNat v0.1.size) 10).bind fun r2 => bif decide (r2 < 0) then Glex_scanner__skip.p4795 (v0.1, v0.2.1, v0.2.2.1, ()) (IntKind.i64.wrap ((v0.1.size : Int) - v0.2.1)) (fun y3 => Glex_scanner__skip.l2 k (y3.1, y3.2.1, y3.2.2.1, ()) κ1) else Glex_scanner__skip.p4795 (v0.1, v0.2.1, v0.2.2.1, ()) r2 (fun y4 => Glex_scanner__skip.l2 k (y4.1, y4.2.1, y4.2.2.1, ()) κ1)) else some (v0.1, v0.2.1, v0.2.2.1, ()))) else κ1 (v0.1, v0.2.1, v0.2.2.1, ())
def Glex_scanner__skip.f (a0 : (ByteArray × Int × List (D × D) × Unit)) : Option (ByteArray × Int × List (D × D) × Unit) :=
  Glex_scanner__skip.l2 NN (a0.1, a0.2.1, a0.2.2.1, ()) (fun y5 => some (y5.1, y5.2.1, y5.2.2.1, ()))
def Glex_scanner__skip.pk : List FK := [.bx (.cn (.str) (.cn (.int .i64) (.cn (.mp 9 4) (.ce))))]
def Glex_scanner__skip.rk : List FK := [.bx (.cn (.str) (.cn (.int .i64) (.cn (.mp 9 4) (.ce))))]
def Glex_scanner__skip.g : Tp Glex_scanner__skip.pk → Option (Tp Glex_scanner__skip.rk) := fun x => Glex_scanner__skip.f x
def Glex_scanner__skip.ρ : List (Entry (Tp Glex_scanner__skip.rk)) := [entry _ Tryd.prog 60 Gstrings_HasPrefix.pk Gstrings_HasPrefix.rk Gstrings_HasPrefix.g, entry _ Tryd.prog 46 Gstrings_IndexByte.pk Gstrings_IndexByte.rk Gstrings_IndexByte.g]
theorem Glex_scanner__skip.hρ : ∀ e ∈ Glex_scanner__skip.ρ, EntryOk Tryd.prog e :=
  ents_cons (ent (fn := Tryd.f60) Gstrings_HasPrefix.spec (by kernel_rfl) (by kernel_rfl) (by kernel_rfl) (by kernel_rfl)) (ents_cons (ent (fn := Tryd.f46) Gstrings_IndexByte.spec (by kernel_rfl) (by kernel_rfl) (by kernel_rfl) (by kernel_rfl)) (ents_nil))
def Glex_scanner__skip.fr4795 : Fr := [(0, .bx (.cn (.str) (.cn (.int .i64) (.cn (.mp 9 4) (.ce))))), (3, .int .i64)]
def Glex_scanner__skip.ou4795 : Outs := [(0, [(0, .bx (.cn (.str) (.cn (.int .i64) (.cn (.mp 9 4) (.ce)))))])]
def Glex_scanner__skip.T4795 (x : Glex_scanner__skip.fr4795.T) (κ : Kp (Tp Glex_scanner__skip.rk) Glex_scanner__skip.ou4795) : Option (Tp Glex_scanner__skip.rk) := Glex_scanner__skip.p4795 x.1 x.2 κ.1
def Glex_scanner__skip.fr2 : Fr := [(0, .bx (.cn (.str) (.cn (.int .i64) (.cn (.mp 9 4) (.ce)))))]
def Glex_scanner__skip.ou2 : Outs := [(1, [(0, .bx (.cn (.str) (.cn (.int .i64) (.cn (.mp 9 4) (.ce)))))])]
def Glex_scanner__skip.T2 (k : Nat) (x : Glex_scanner__skip.fr2.T) (κ : Kp (Tp Glex_scanner__skip.rk) Glex_scanner__skip.ou2) : Option (Tp Glex_scanner__skip.rk) := Glex_scanner__skip.l2 k x κ.1
def Glex_scanner__skip.Λ0 : Cuts (Tp Glex_scanner__skip.rk) := cutsOf []
def Glex_scanner__skip.Λ1 : Cuts (Tp Glex_scanner__skip.rk) := cutsOf [(4795, cut Tryd.prog Glex_scanner__skip.fr4795 Glex_scanner__skip.ou4795 (Glex_scanner__skip.T4795))]
def Glex_scanner__skip.Λ : Cuts (Tp Glex_scanner__skip.rk) := cutsOf [(2, cut Tryd.prog Glex_scanner__skip.fr2 Glex_scanner__skip.ou2 (Glex_scanner__skip.T2 NN)), (4795, cut Tryd.prog Glex_scanner__skip.fr4795 Glex_scanner__skip.ou4795 (Glex_scanner__skip.T4795))]
theorem Glex_scanner__skip.c4795 (A : Ks) (w0 : World) : CutOk Tryd.prog ⟨Tryd.f41.ntmps, 1, A⟩ w0 (kRetIO Tryd.prog [0] Tryd.f41.results.toList Glex_scanner__skip.rk) (bodyOf Tryd.f41) 4795 (cut Tryd.prog Glex_scanner__skip.fr4795 Glex_scanner__skip.ou4795 (Glex_scanner__skip.T4795)) :=
  cut_ok Glex_scanner__skip.hρ (Λ := Glex_scanner__skip.Λ0) (cuts_nil) (by kernel_rfl) (by kernel_rfl) (D := 64) (c := nodeOf Tryd.f41 4795) (by kernel_rfl) (by kernel_rfl) (fun x κ => by kernel_rfl)
theorem Glex_scanner__skip.c2 (A : Ks) (w0 : World) : CutOk Tryd.prog ⟨Tryd.f41.ntmps, 1, A⟩ w0 (kRetIO Tryd.prog [0] Tryd.f41.results.toList Glex_scanner__skip.rk) (bodyOf Tryd.f41) 2 (cut Tryd.prog Glex_scanner__skip.fr2 Glex_scanner__skip.ou2 (Glex_scanner__skip.T2 NN)) :=
  loop_ok Glex_scanner__skip.hρ (Λ := Glex_scanner__skip.Λ1) (cuts_cons (Glex_scanner__skip.c4795 A w0) (cuts_nil)) (by kernel_rfl) (D := 64) (b := loopOf Tryd.f41 2) (by kernel_rfl) (by kernel_rfl) NN (fun x κ => by kernel_rfl) (fun k x κ => by kernel_rfl)
theorem Glex_scanner__skip.spec : SpecIO Tryd.prog 41 Glex_scanner__skip.pk [0] Glex_scanner__skip.rk Glex_scanner__skip.g :=
  spec_io_of_body (fn := Tryd.f41) (c := bodyOf Tryd.f41) (by kernel_rfl) (by kernel_rfl) (by kernel_rfl) (np := 1) (by kernel_rfl) (by kernel_rfl) (by kernel_rfl) (ρ := Glex_scanner__skip.ρ) Glex_scanner__skip.hρ (Λ := Glex_scanner__skip.Λ) (fun A w0 => cuts_cons (Glex_scanner__skip.c2 A w0) (cuts_cons (Glex_scanner__skip.c4795 A w0) (cuts_nil))) (fun x => by kernel_rfl)

/-! ### 17 bluebell/lex.Signs -/
def Glex_Signs.f : Option (List D) :=
  (Gstrings_Fields.f strh31e994760f40ef52).bind fun r1 => some r1
def Glex_Signs.pk : List FK := []
def Glex_Signs.rk : List FK := [.own 9]
def Glex_Signs.g : Tp Glex_Signs.pk → Option (Tp Glex_Signs.rk) := fun _ => Glex_Signs.f
def Glex_Signs.ρ : List (Entry (Tp Glex_Signs.rk)) := [entry _ Tryd.prog 34 Gstrings_Fields.pk Gstrings_Fields.rk Gstrings_Fields.g]
theorem Glex_Signs.hρ : ∀ e ∈ Glex_Signs.ρ, EntryOk Tryd.prog e :=
  ents_cons (ent (fn := Tryd.f34) Gstrings_Fields.spec (by kernel_rfl) (by kernel_rfl) (by kernel_rfl) (by kernel_rfl)) (ents_nil)
def Glex_Signs.Λ : Cuts (Tp Glex_Signs.rk) := cutsOf []
theorem Glex_Signs.spec : Spec Tryd.prog 17 Glex_Signs.pk Glex_Signs.rk Glex_Signs.g :=
  spec_of_body (fn := Tryd.f17) (c := bodyOf Tryd.f17) (by kernel_rfl) (by kernel_rfl) (by kernel_rfl) (by kernel_rfl) (ρ := Glex_Signs.ρ) Glex_Signs.hρ (Λ := Glex_Signs.Λ) (fun A w0 => cuts_nil) (fun x => by kernel_rfl)

/-! ### 61 (*bluebell/lex.scanner).sign -/
def Glex_scanner__sign.l58 : Nat → ((ByteArray × Int × List (D × D) × Unit)) → D → D → (List D) → Int → Int → (((ByteArray × Int × List (D × D) × Unit) × D × D) → Option (D × Int × (ByteArray × Int × List (D × D) × Unit))) → Option (D × Int × (ByteArray × Int × List (D × D) × Unit))
  | 0, _, _, _, _, _, _, _ => none
  | k + 1, v0, v2, v4, v12, v13, v14, κ1 =>
    bif decide (v14 < v13) then gd (inB v14 v12.length) (gd (Nat.blt v14.toNat v12.length) (gd ((!(decide ((((rd v12 v14.toNat).str).size : Int) > (((v4.cell 1).str).size : Int)))) || (decide (0 ≤ v0.2.1) && decide (v0.2.1 ≤ (v0.1.size : Int)))) ((bif (decide ((((rd v12 v14.toNat).str).size : Int) > (((v4.cell 1).str).size : Int))) then Gstrings_HasPrefix.f (v0.1.extract v0.2.1.toNat v0.1.size) ((rd v12 v14.toNat).str) else some false).bind fun r2 => bif ((decide ((((rd v12 v14.toNat).str).size : Int) > (((v4.cell 1).str).size : Int))) && r2) then Glex_scanner__sign.l58 k (v0.1, v0.2.1, v0.2.2.1, ()) v2 (.r [.i ((v4.cell 0).int), .s ((rd v12 v14.toNat).str), .i ((v4.cell 2).int), .i ((v4.cell 3).int)]) v12 v13 (IntKind.i64.wrap (v14 + 1)) κ1 else Glex_scanner__sign.l58 k (v0.1, v0.2.1, v0.2.2.1, ()) v2 v4 v12 v13 (IntKind.i64.wrap (v14 + 1)) κ1))) else κ1 ((v0.1, v0.2.1, v0.2.2.1, ()), v2, v4)
def Glex_scanner__sign.f (a0 : (ByteArray × Int × List (D × D) × Unit)) : Option (D × Int × (ByteArray × Int × List (D × D) × Unit)) :=
  (Glex_Signs.f).bind fun r1 => Glex_scanner__sign.l58 NN (a0.1, a0.2.1, a0.2.2.1, ()) (.r [.i 0, .s ByteArray.empty, .i 0, .i 0]) (.r [.i 5, .s ByteArray.empty, .i 0, .i a0.2.1]) r1 (r1.length : Int) 0 (fun y3 => bif (((y3.2.2.cell 1).str).toList == strNil.toList) then some (y3.2.2, 20, (y3.1.1, y3.1.2.1, y3.1.2.2.1, ())) else some (y3.2.2, 0, (y3.1.1, (IntKind.i64.wrap (y3.1.2.1 + (((y3.2.2.cell 1).str).size : Int))), y3.1.2.2.1, ())))
def Glex_scanner__sign.pk : List FK := [.bx (.cn (.str) (.cn (.int .i64) (.cn (.mp 9 4) (.ce))))]
def Glex_scanner__sign.rk : List FK := [.st 33, .int .i64, .bx (.cn (.str) (.cn (.int .i64) (.cn (.mp 9 4) (.ce))))]
def Glex_scanner__sign.g : Tp Glex_scanner__sign.pk → Option (Tp Glex_scanner__sign.rk) := fun x => Glex_scanner__sign.f x
def Glex_scanner__sign.ρ : List (Entry (Tp Glex_scanner__sign.rk)) := [entry _ Tryd.prog 17 Glex_Signs.pk Glex_Signs.rk Glex_Signs.g, entry _ Tryd.prog 60 Gstrings_HasPrefix.pk Gstrings_HasPrefix.rk Gstrings_HasPrefix.g]
theorem Glex_scanner__sign.hρ : ∀ e ∈ Glex_scanner__sign.ρ, EntryOk Tryd.prog e :=
  ents_cons (ent (fn := Tryd.f17) Glex_Signs.spec (by kernel_rfl) (by kernel_rfl) (by kernel_rfl) (by kernel_rfl)) (ents_cons (ent (fn := Tryd.f60) Gstrings_HasPrefix.spec (by kernel_rfl) (by kernel_rfl) (by kernel_rfl) (by kernel_rfl)) (ents_nil))
def Glex_scanner__sign.fr58 : Fr := [(0, .bx (.cn (.str) (.cn (.int .i64) (.cn (.mp 9 4) (.ce))))), (2, .bx (.st 33)), (4, .bx (.st 33)), (12, .own 9), (13, .int .i64), (14, .int .i64)]
def Glex_scanner__sign.ou58 : Outs := [(1, [(0, .bx (.cn (.str) (.cn (.int .i64) (.cn (.mp 9 4) (.ce))))), (2, .bx (.st 33)), (4, .bx (.st 33))])]
def Glex_scanner__sign.T58 (k : Nat) (x : Glex_scanner__sign.fr58.T) (κ : Kp (Tp Glex_scanner__sign.rk) Glex_scanner__sign.ou58) : Option (Tp Glex_scanner__sign.rk) := Glex_scanner__sign.l58 k x.1 x.2.1 x.2.2.1 x.2.2.2.1 x.2.2.2.2.1 x.2.2.2.2.2 κ.1
def Glex_scanner__sign.Λ0 : Cuts (Tp Glex_scanner__sign.rk) := cutsOf []
def Glex_scanner__sign.Λ : Cuts (Tp Glex_scanner__sign.rk) := cutsOf [(58, cut Tryd.prog Glex_scanner__sign.fr58 Glex_scanner__sign.ou58 (Glex_scanner__sign.T58 NN))]
theorem Glex_scanner__sign.c58 (A : Ks) (w0 : World) : CutOk Tryd.prog ⟨Tryd.f61.ntmps, 1, A⟩ w0 (kRetIO Tryd.prog [0] Tryd.f61.results.toList Glex_scanner__sign.rk) (bodyOf Tryd.f61) 58 (cut Tryd.prog Glex_scanner__sign.fr58 Glex_scanner__sign.ou58 (Glex_scanner__sign.T58 NN)) :=
  loop_ok Glex_scanner__sign.hρ (Λ := Glex_scanner__sign.Λ0) (cuts_nil) (by kernel_rfl) (D := 64) (b := loopOf Tryd.f61 58) (by kernel_rfl) (by kernel_rfl) NN (fun x κ => by kernel_rfl) (fun k x κ => by kernel_rfl)
theorem Glex_scanner__sign.spec : SpecIO Tryd.prog 61 Glex_scanner__sign.pk [0] Glex_scanner__sign.rk Glex_scanner__sign.g :=
  spec_io_of_body (fn := Tryd.f61) (c := bodyOf Tryd.f61) (by kernel_rfl) (by kernel_rfl) (by kernel_rfl) (np := 1) (by kernel_rfl) (by kernel_rfl) (by kernel_rfl) (ρ := Glex_scanner__sign.ρ) Glex_scanner__sign.hρ (Λ := Glex_scanner__sign.Λ) (fun A w0 => cuts_cons (Glex_scanner__sign.c58 A w0) (cuts_nil)) (fun x => by kernel_rfl)

/-! ### 35 bluebell/lex.small -/
def Glex_small.f (a0 : Int) : Option Bool :=
  some ((decide (a0 ≥ 97)) && (decide (a0 ≤ 122)))
def Glex_small.pk : List FK := [.int .u8]
def Glex_small.rk : List FK := [.bool]
def Glex_small.g : Tp Glex_small.pk → Option (Tp Glex_small.rk) := fun x => Glex_small.f x
def Glex_small.ρ : List (Entry (Tp Glex_small.rk)) := []
theorem Glex_small.hρ : ∀ e ∈ Glex_small.ρ, EntryOk Tryd.prog e :=
  ents_nil
def Glex_small.Λ : Cuts (Tp Glex_small.rk) := cutsOf []
theorem Glex_small.spec : Spec Tryd.prog 35 Glex_small.pk Glex_small.rk Glex_small.g :=
  spec_of_body (fn := Tryd.f35) (c := bodyOf Tryd.f35) (by kernel_rfl) (by kernel_rfl) (by kernel_rfl) (by kernel_rfl) (ρ := Glex_small.ρ) Glex_small.hρ (Λ := Glex_small.Λ) (fun A w0 => cuts_nil) (fun x => by kernel_rfl)

/-! ### 58 bluebell/lex.digit -/
def Glex_digit.f (a0 : Int) : Option Bool :=
  some ((decide (a0 ≥ 48)) && (decide (a0 ≤ 57)))
def Glex_digit.pk : List FK := [.int .u8]
def Glex_digit.rk : List FK := [.bool]
def Glex_digit.g : Tp Glex_digit.pk → Option (Tp Glex_digit.rk) := fun x => Glex_digit.f x
def Glex_digit.ρ : List (Entry (Tp Glex_digit.rk)) := []
theorem Glex_digit.hρ : ∀ e ∈ Glex_digit.ρ, EntryOk Tryd.prog e :=
  ents_nil
def Glex_digit.Λ : Cuts (Tp Glex_digit.rk) := cutsOf []
theorem Glex_digit.spec : Spec Tryd.prog 58 Glex_digit.pk Glex_digit.rk Glex_digit.g :=
  spec_of_body (fn := Tryd.f58) (c := bodyOf Tryd.f58) (by kernel_rfl) (by kernel_rfl) (by kernel_rfl) (by kernel_rfl) (ρ := Glex_digit.ρ) Glex_digit.hρ (Λ := Glex_digit.Λ) (fun A w0 => cuts_nil) (fun x => by kernel_rfl)

/-! ### 36 bluebell/lex.wordy -/
def Glex_wordy.f (a0 : Int) : Option Bool :=
  (Glex_small.f a0).bind fun r1 => (bif (!r1) then Glex_digit.f a0 else some false).bind fun r2 => some ((r1 || r2) || (a0 == 95))
def Glex_wordy.pk : List FK := [.int .u8]
def Glex_wordy.rk : List FK := [.bool]
def Glex_wordy.g : Tp Glex_wordy.pk → Option (Tp Glex_wordy.rk) := fun x => Glex_wordy.f x
def Glex_wordy.ρ : List (Entry (Tp Glex_wordy.rk)) := [entry _ Tryd.prog 35 Glex_small.pk Glex_small.rk Glex_small.g, entry _ Tryd.prog 58 Glex_digit.pk Glex_digit.rk Glex_digit.g]
theorem Glex_wordy.hρ : ∀ e ∈ Glex_wordy.ρ, EntryOk Tryd.prog e :=
  ents_cons (ent (fn := Tryd.f35) Glex_small.spec (by kernel_rfl) (by kernel_rfl) (by kernel_rfl) (by kernel_rfl)) (ents_cons (ent (fn := Tryd.f58) Glex_digit.spec (by kernel_rfl) (by kernel_rfl) (by kernel_rfl) (by kernel_rfl)) (ents_nil))
def Glex_wordy.Λ : Cuts (Tp Glex_wordy.rk) := cutsOf []
theorem Glex_wordy.spec : Spec Tryd.prog 36 Glex_wordy.pk Glex_wordy.rk Glex_wordy.g :=
  spec_of_body (fn := Tryd.f36) (c := bodyOf Tryd.f36) (by kernel_rfl) (by kernel_rfl) (by kernel_rfl) (by kernel_rfl) (ρ := Glex_wordy.ρ) Glex_wordy.hρ (Λ := Glex_wordy.Λ) (fun A w0 => cuts_nil) (fun x => by kernel_rfl)

/-! ### (84, None, 36) (*bluebell/lex.scanner).run -/
def Glex_scanner__run_36.l28 : Nat → ((ByteArray × Int × List (D × D) × Unit)) → Unit → Int → (((ByteArray × Int × List (D × D) × Unit) × Int) → Option (ByteArray × (ByteArray × Int × List (D × D) × Unit))) → Option (ByteArray × (ByteArray × Int × List (D × D) × Unit))
  | 0, _, _, _, _ => none
  | k + 1, v0, v1, v5, κ1 =>
    gd ((!(decide (v0.2.1 < (v0.1.size : Int)))) || (inB v0.2.1 v0.1.size)) ((bif (decide (v0.2.1 < (v0.1.size : Int))) then Glex_wordy.f (bt v0.1 v0.2.1.toNat) else some false).bind fun r1 => bif ((decide (v0.2.1 < (v0.1.size : Int))) && r1) then Glex_scanner__run_36.l28 k (v0.1, (IntKind.i64.wrap (v0.2.1 + 1)), v0.2.2.1, ()) () v5 κ1 else κ1 ((v0.1, v0.2.1, v0.2.2.1, ()), v5))
def Glex_scanner__run_36.f (a0 : (ByteArray × Int × List (D × D) × Unit)) (a1 : Unit) : Option (ByteArray × (ByteArray × Int × List (D × D) × Unit)) :=
  Glex_scanner__run_36.l28 NN (a0.1, a0.2.1, a0.2.2.1, ()) () a0.2.1 (fun y2 => gd (decide (0 ≤ y2.2) && (decide (y2.2 ≤ y2.1.2.1) && decide (y2.1.2.1 ≤ (y2.1.1.size : Int)))) (some ((y2.1.1.extract y2.2.toNat y2.1.2.1.toNat), (y2.1.1, y2.1.2.1, y2.1.2.2.1, ()))))
def Glex_scanner__run_36.pk : List FK := [.bx (.cn (.str) (.cn (.int .i64) (.cn (.mp 9 4) (.ce)))), .fn 36]
def Glex_scanner__run_36.rk : List FK := [.str, .bx (.cn (.str) (.cn (.int .i64) (.cn (.mp 9 4) (.ce))))]
def Glex_scanner__run_36.g : Tp Glex_scanner__run_36.pk → Option (Tp Glex_scanner__run_36.rk) := fun x => Glex_scanner__run_36.f x.1 x.2
def Glex_scanner__run_36.ρ : List (Entry (Tp Glex_scanner__run_36.rk)) := [entry _ Tryd.prog 36 Glex_wordy.pk Glex_wordy.rk Glex_wordy.g]
theorem Glex_scanner__run_36.hρ : ∀ e ∈ Glex_scanner__run_36.ρ, EntryOk Tryd.prog e :=
  ents_cons (ent (fn := Tryd.f36) Glex_wordy.spec (by kernel_rfl) (by kernel_rfl) (by kernel_rfl) (by kernel_rfl)) (ents_nil)
def Glex_scanner__run_36.fr28 : Fr := [(0, .bx (.cn (.str) (.cn (.int .i64) (.cn (.mp 9 4) (.ce))))), (1, .fn 36), (5, .int .i64)]
def Glex_scanner__run_36.ou28 : Outs := [(1, [(0, .bx (.cn (.str) (.cn (.int .i64) (.cn (.mp 9 4) (.ce))))), (5, .int .i64)])]
def Glex_scanner__run_36.T28 (k : Nat) (x : Glex_scanner__run_36.fr28.T) (κ : Kp (Tp Glex_scanner__run_36.rk) Glex_scanner__run_36.ou28) : Option (Tp Glex_scanner__run_36.rk) := Glex_scanner__run_36.l28 k x.1 x.2.1 x.2.2 κ.1
def Glex_scanner__run_36.Λ0 : Cuts (Tp Glex_scanner__run_36.rk) := cutsOf []
def Glex_scanner__run_36.Λ : Cuts (Tp Glex_scanner__run_36.rk) := cutsOf [(28, cut Tryd.prog Glex_scanner__run_36.fr28 Glex_scanner__run_36.ou28 (Glex_scanner__run_36.T28 NN))]
theorem Glex_scanner__run_36.c28 (A : Ks) (w0 : World) : CutOk Tryd.prog ⟨Tryd.f84.ntmps, 2, A⟩ w0 (kRetIO Tryd.prog [0] Tryd.f84.results.toList Glex_scanner__run_36.rk) (bodyOf Tryd.f84) 28 (cut Tryd.prog Glex_scanner__run_36.fr28 Glex_scanner__run_36.ou28 (Glex_scanner__run_36.T28 NN)) :=
  loop_ok Glex_scanner__run_36.hρ (Λ := Glex_scanner__run_36.Λ0) (cuts_nil) (by kernel_rfl) (D := 64) (b := loopOf Tryd.f84 28) (by kernel_rfl) (by kernel_rfl) NN (fun x κ => by kernel_rfl) (fun k x κ => by kernel_rfl)
theorem Glex_scanner__run_36.spec : SpecIO Tryd.prog 84 Glex_scanner__run_36.pk [0] Glex_scanner__run_36.rk Glex_scanner__run_36.g :=
  spec_io_of_body (fn := Tryd.f84) (c := bodyOf Tryd.f84) (by kernel_rfl) (by kernel_rfl) (by kernel_rfl) (np := 2) (by kernel_rfl) (by kernel_rfl) (by kernel_rfl) (ρ := Glex_scanner__run_36.ρ) Glex_scanner__run_36.hρ (Λ := Glex_scanner__run_36.Λ) (fun A w0 => cuts_cons (Glex_scanner__run_36.c28 A w0) (cuts_nil)) (fun x => by kernel_rfl)

/-! ### 62 (*bluebell/lex.scanner).name -/
def Glex_scanner__name.f (a0 : (ByteArray × Int × List (D × D) × Unit)) : Option (D × Int × (ByteArray × Int × List (D × D) × Unit)) :=
  (Glex_scanner__run_36.f (a0.1, a0.2.1, a0.2.2.1, ()) ()).bind fun r1 => bif decide ((r1.1.size : Int) > 24) then some (.r [.i 1, .s r1.1, .i 0, .i a0.2.1], 2, (r1.2.1, r1.2.2.1, r1.2.2.2.1, ())) else gd (decide (r1.1.size ≤ maxS)) (bif (mget K.str (.s r1.1) (.b false) r1.2.2.2.1).bool then some (.r [.i 4, .s r1.1, .i 0, .i a0.2.1], 0, (r1.2.1, r1.2.2.1, r1.2.2.2.1, ())) else some (.r [.i 1, .s r1.1, .i 0, .i a0.2.1], 0, (r1.2.1, r1.2.2.1, r1.2.2.2.1, ())))
def Glex_scanner__name.pk : List FK := [.bx (.cn (.str) (.cn (.int .i64) (.cn (.mp 9 4) (.ce))))]
def Glex_scanner__name.rk : List FK := [.st 33, .int .i64, .bx (.cn (.str) (.cn (.int .i64) (.cn (.mp 9 4) (.ce))))]
def Glex_scanner__name.g : Tp Glex_scanner__name.pk → Option (Tp Glex_scanner__name.rk) := fun x => Glex_scanner__name.f x
def Glex_scanner__name.ρ : List (Entry (Tp Glex_scanner__name.rk)) := [entryIO _ Tryd.prog 84 Glex_scanner__run_36.pk Glex_scanner__run_36.rk 0 Glex_scanner__run_36.g]
theorem Glex_scanner__name.hρ : ∀ e ∈ Glex_scanner__name.ρ, EntryOk Tryd.prog e :=
  ents_cons (entIO (fn := Tryd.f84) Glex_scanner__run_36.spec (by kernel_rfl) (by kernel_rfl) (by kernel_rfl)) (ents_nil)
def Glex_scanner__name.Λ : Cuts (Tp Glex_scanner__name.rk) := cutsOf []
theorem Glex_scanner__name.spec : SpecIO Tryd.prog 62 Glex_scanner__name.pk [0] Glex_scanner__name.rk Glex_scanner__name.g :=
  spec_io_of_body (fn := Tryd.f62) (c := bodyOf Tryd.f62) (by kernel_rfl) (by kernel_rfl) (by kernel_rfl) (np := 1) (by kernel_rfl) (by kernel_rfl) (by kernel_rfl) (ρ := Glex_scanner__name.ρ) Glex_scanner__name.hρ (Λ := Glex_scanner__name.Λ) (fun A w0 => cuts_nil) (fun x => by kernel_rfl)

/-! ### 85 bluebell/lex.hex -/
def Glex_hex.f (a0 : Int) : Option Bool :=
  (Glex_digit.f a0).bind fun r1 => some ((r1 || ((decide (a0 ≥ 97)) && (decide (a0 ≤ 102)))) || ((decide (a0 ≥ 65)) && (decide (a0 ≤ 70))))
def Glex_hex.pk : List FK := [.int .u8]
def Glex_hex.rk : List FK := [.bool]
def Glex_hex.g : Tp Glex_hex.pk → Option (Tp Glex_hex.rk) := fun x => Glex_hex.f x
def Glex_hex.ρ : List (Entry (Tp Glex_hex.rk)) := [entry _ Tryd.prog 58 Glex_digit.pk Glex_digit.rk Glex_digit.g]
theorem Glex_hex.hρ : ∀ e ∈ Glex_hex.ρ, EntryOk Tryd.prog e :=
  ents_cons (ent (fn := Tryd.f58) Glex_digit.spec (by kernel_rfl) (by kernel_rfl) (by kernel_rfl) (by kernel_rfl)) (ents_nil)
def Glex_hex.Λ : Cuts (Tp Glex_hex.rk) := cutsOf []
theorem Glex_hex.spec : Spec Tryd.prog 85 Glex_hex.pk Glex_hex.rk Glex_hex.g :=
  spec_of_body (fn := Tryd.f85) (c := bodyOf Tryd.f85) (by kernel_rfl) (by kernel_rfl) (by kernel_rfl) (by kernel_rfl) (ρ := Glex_hex.ρ) Glex_hex.hρ (Λ := Glex_hex.Λ) (fun A w0 => cuts_nil) (fun x => by kernel_rfl)

/-! ### 110 internal/strconv.lower -/
def Ginternal_strconv_lower.f (a0 : Int) : Option Int :=
  some (IntKind.u8.wrap ((BitVec.ofInt (IntKind.u8).bits a0 ||| BitVec.ofInt (IntKind.u8).bits 32).toNat : Int))
def Ginternal_strconv_lower.pk : List FK := [.int .u8]
def Ginternal_strconv_lower.rk : List FK := [.int .u8]
def Ginternal_strconv_lower.g : Tp Ginternal_strconv_lower.pk → Option (Tp Ginternal_strconv_lower.rk) := fun x => Ginternal_strconv_lower.f x
def Ginternal_strconv_lower.ρ : List (Entry (Tp Ginternal_strconv_lower.rk)) := []
theorem Ginternal_strconv_lower.hρ : ∀ e ∈ Ginternal_strconv_lower.ρ, EntryOk Tryd.prog e :=
  ents_nil
def Ginternal_strconv_lower.Λ : Cuts (Tp Ginternal_strconv_lower.rk) := cutsOf []
theorem Ginternal_strconv_lower.spec : Spec Tryd.prog 110 Ginternal_strconv_lower.pk Ginternal_strconv_lower.rk Ginternal_strconv_lower.g :=
  spec_of_body (fn := Tryd.f110) (c := bodyOf Tryd.f110) (by kernel_rfl) (by kernel_rfl) (by kernel_rfl) (by kernel_rfl) (ρ := Ginternal_strconv_lower.ρ) Ginternal_strconv_lower.hρ (Λ := Ginternal_strconv_lower.Λ) (fun A w0 => cuts_nil) (fun x => by kernel_rfl)

/-! ### 111 internal/strconv.underscoreOK -/
def Ginternal_strconv_underscoreOK.l508 : Nat → ByteArray → Int → Int → Bool → (Int → Option Bool) → Option Bool
  | 0, _, _, _, _, _ => none
  | k + 1, v0, v3, v4, v5, κ1 =>
    bif decide (v4 < (v0.size : Int)) then gd (inB v4 v0.size) (gd ((!(decide ((48 : Int) ≤ (bt v0 v4.toNat)))) || (inB v4 v0.size)) (gd ((!((!((decide ((48 : Int) ≤ (bt v0 v4.toNat))) && (decide ((bt v0 v4.toNat) ≤ 57)))) && v5)) || (inB v4 v0.size)) ((bif ((!((decide ((48 : Int) ≤ (bt v0 v4.toNat))) && (decide ((bt v0 v4.toNat) ≤ 57)))) && v5) then Ginternal_strconv_lower.f (bt v0 v4.toNat) else some 0).bind fun r5 => gd ((!((!((decide ((48 : Int) ≤ (bt v0 v4.toNat))) && (decide ((bt v0 v4.toNat) ≤ 57)))) && (v5 && (decide ((97 : Int) ≤ r5))))) || (inB v4 v0.size)) ((bif ((!((decide ((48 : Int) ≤ (bt v0 v4.toNat))) && (decide ((bt v0 v4.toNat) ≤ 57)))) && (v5 && (decide ((97 : Int) ≤ r5)))) then Ginternal_strconv_lower.f (bt v0 v4.toNat) else some 0).bind fun r6 => bif (((decide ((48 : Int) ≤ (bt v0 v4.toNat))) && (decide ((bt v0 v4.toNat) ≤ 57))) || ((v5 && (decide ((97 : Int) ≤ r5))) && (decide (r6 ≤ 102)))) then Ginternal_strconv_underscoreOK.l508 k v0 48 (IntKind.i64.wrap (v4 + 1)) v5 κ1 else gd (inB v4 v0.size) (bif ((bt v0 v4.toNat) == 95) then bif (v3 != 48) then some false else Ginternal_strconv_underscoreOK.l508 k v0 95 (IntKind.i64.wrap (v4 + 1)) v5 κ1 else bif (v3 == 95) then some false else Ginternal_strconv_underscoreOK.l508 k v0 33 (IntKind.i64.wrap (v4 + 1)) v5 κ1))))) else κ1 v3
def Ginternal_strconv_underscoreOK.p127 (v0 : ByteArray) (v3 : Int) (v4 : Int) (v5 : Bool) : Option Bool :=
  Ginternal_strconv_underscoreOK.l508 NN v0 v3 v4 v5 (fun y7 => some (y7 != 95))
def Ginternal_strconv_underscoreOK.p31 (v0 : ByteArray) (v3 : Int) (v4 : Int) : Option Bool :=
  gd ((!(decide ((v0.size : Int) ≥ 2))) || (inB 0 v0.size)) (gd ((!((decide ((v0.size : Int) ≥ 2)) && ((bt v0 0) == 48))) || (inB 1 v0.size)) ((bif ((decide ((v0.size : Int) ≥ 2)) && ((bt v0 0) == 48)) then Ginternal_strconv_lower.f (bt v0 1) else some 0).bind fun r1 => gd ((!(((decide ((v0.size : Int) ≥ 2)) && ((bt v0 0) == 48)) && (!(r1 == 98)))) || (inB 1 v0.size)) ((bif (((decide ((v0.size : Int) ≥ 2)) && ((bt v0 0) == 48)) && (!(r1 == 98))) then Ginternal_strconv_lower.f (bt v0 1) else some 0).bind fun r2 => gd ((!(((decide ((v0.size : Int) ≥ 2)) && ((bt v0 0) == 48)) && (!((r1 == 98) || (r2 == 111))))) || (inB 1 v0.size)) ((bif (((decide ((v0.size : Int) ≥ 2)) && ((bt v0 0) == 48)) && (!((r1 == 98) || (r2 == 111)))) then Ginternal_strconv_lower.f (bt v0 1) else some 0).bind fun r3 => bif (((decide ((v0.size : Int) ≥ 2)) && ((bt v0 0) == 48)) && (((r1 == 98) || (r2 == 111)) || (r3 == 120))) then gd (inB 1 v0.size) ((Ginternal_strconv_lower.f (bt v0 1)).bind fun r4 => Ginternal_strconv_underscoreOK.p127 v0 48 2 (r4 == 120)) else Ginternal_strconv_underscoreOK.p127 v0 v3 v4 false))))
def Ginternal_strconv_underscoreOK.f (a0 : ByteArray) : Option Bool :=
  gd ((!(decide ((a0.size : Int) ≥ 1))) || (inB 0 a0.size)) (gd ((!((decide ((a0.size : Int) ≥ 1)) && (!((bt a0 0) == 45)))) || (inB 0 a0.size)) (bif ((decide ((a0.size : Int) ≥ 1)) && (((bt a0 0) == 45) || ((bt a0 0) == 43))) then gd (decide (0 ≤ (1 : Int)) && decide (1 ≤ (a0.size : Int))) (Ginternal_strconv_underscoreOK.p31 (a0.extract 1 a0.size) 94 0) else Ginternal_strconv_underscoreOK.p31 a0 94 0))
def Ginternal_strconv_underscoreOK.pk : List FK := [.str]
def Ginternal_strconv_underscoreOK.rk : List FK := [.bool]
def Ginternal_strconv_underscoreOK.g : Tp Ginternal_strconv_underscoreOK.pk → Option (Tp Ginternal_strconv_underscoreOK.rk) := fun x => Ginternal_strconv_underscoreOK.f x
def Ginternal_strconv_underscoreOK.ρ : List (Entry (Tp Ginternal_strconv_underscoreOK.rk)) := [entry _ Tryd.prog 110 Ginternal_strconv_lower.pk Ginternal_strconv_lower.rk Ginternal_strconv_lower.g]
theorem Ginternal_strconv_underscoreOK.hρ : ∀ e ∈ Ginternal_strconv_underscoreOK.ρ, EntryOk Tryd.prog e :=
  ents_cons (ent (fn := Tryd.f110) Ginternal_strconv_lower.spec (by kernel_rfl) (by kernel_rfl) (by kernel_rfl) (by kernel_rfl)) (ents_nil)
def Ginternal_strconv_underscoreOK.fr508 : Fr := [(0, .str), (3, .int .i32), (4, .int .i64), (5, .bool)]
def Ginternal_strconv_underscoreOK.ou508 : Outs := [(1, [(3, .int .i32)])]
def Ginternal_strconv_underscoreOK.T508 (k : Nat) (x : Ginternal_strconv_underscoreOK.fr508.T) (κ : Kp (Tp Ginternal_strconv_underscoreOK.rk) Ginternal_strconv_underscoreOK.ou508) : Option (Tp Ginternal_strconv_underscoreOK.rk) := Ginternal_strconv_underscoreOK.l508 k x.1 x.2.1 x.2.2.1 x.2.2.2 κ.1
def Ginternal_strconv_underscoreOK.fr127 : Fr := [(0, .str), (3, .int .i32), (4, .int .i64), (5, .bool)]
def Ginternal_strconv_underscoreOK.ou127 : Outs := []
def Ginternal_strconv_underscoreOK.T127 (x : Ginternal_strconv_underscoreOK.fr127.T) (κ : Kp (Tp Ginternal_strconv_underscoreOK.rk) Ginternal_strconv_underscoreOK.ou127) : Option (Tp Ginternal_strconv_underscoreOK.rk) := Ginternal_strconv_underscoreOK.p127 x.1 x.2.1 x.2.2.1 x.2.2.2
def Ginternal_strconv_underscoreOK.fr31 : Fr := [(0, .str), (3, .int .i32), (4, .int .i64)]
def Ginternal_strconv_underscoreOK.ou31 : Outs := []
def Ginternal_strconv_underscoreOK.T31 (x : Ginternal_strconv_underscoreOK.fr31.T) (κ : Kp (Tp Ginternal_strconv_underscoreOK.rk) Ginternal_strconv_underscoreOK.ou31) : Option (Tp Ginternal_strconv_underscoreOK.rk) := Ginternal_strconv_underscoreOK.p31 x.1 x.2.1 x.2.2
def Ginternal_strconv_underscoreOK.Λ0 : Cuts (Tp Ginternal_strconv_underscoreOK.rk) := cutsOf []
def Ginternal_strconv_underscoreOK.Λ1 : Cuts (Tp Ginternal_strconv_underscoreOK.rk) := cutsOf [(508, cut Tryd.prog Ginternal_strconv_underscoreOK.fr508 Ginternal_strconv_underscoreOK.ou508 (Ginternal_strconv_underscoreOK.T508 NN))]
def Ginternal_strconv_underscoreOK.Λ2 : Cuts (Tp Ginternal_strconv_underscoreOK.rk) := cutsOf [(127, cut Tryd.prog Ginternal_strconv_underscoreOK.fr127 Ginternal_strconv_underscoreOK.ou127 (Ginternal_strconv_underscoreOK.T127)), (508, cut Tryd.prog Ginternal_strconv_underscoreOK.fr508 Ginternal_strconv_underscoreOK.ou508 (Ginternal_strconv_underscoreOK.T508 NN))]
def Ginternal_strconv_underscoreOK.Λ : Cuts (Tp Ginternal_strconv_underscoreOK.rk) := cutsOf [(31, cut Tryd.prog Ginternal_strconv_underscoreOK.fr31 Ginternal_strconv_underscoreOK.ou31 (Ginternal_strconv_underscoreOK.T31)), (127, cut Tryd.prog Ginternal_strconv_underscoreOK.fr127 Ginternal_strconv_underscoreOK.ou127 (Ginternal_strconv_underscoreOK.T127)), (508, cut Tryd.prog Ginternal_strconv_underscoreOK.fr508 Ginternal_strconv_underscoreOK.ou508 (Ginternal_strconv_underscoreOK.T508 NN))]
theorem Ginternal_strconv_underscoreOK.c508 (A : Ks) (w0 : World) : CutOk Tryd.prog ⟨Tryd.f111.ntmps, 0, A⟩ w0 (kRet Tryd.prog Tryd.f111.results.toList Ginternal_strconv_underscoreOK.rk) (bodyOf Tryd.f111) 508 (cut Tryd.prog Ginternal_strconv_underscoreOK.fr508 Ginternal_strconv_underscoreOK.ou508 (Ginternal_strconv_underscoreOK.T508 NN)) :=
  loop_ok Ginternal_strconv_underscoreOK.hρ (Λ := Ginternal_strconv_underscoreOK.Λ0) (cuts_nil) (by kernel_rfl) (D := 64) (b := loopOf Tryd.f111 508) (by kernel_rfl) (by kernel_rfl) NN (fun x κ => by kernel_rfl) (fun k x κ => by kernel_rfl)
theorem Ginternal_strconv_underscoreOK.c127 (A : Ks) (w0 : World) : CutOk Tryd.prog ⟨Tryd.f111.ntmps, 0, A⟩ w0 (kRet Tryd.prog Tryd.f111.results.toList Ginternal_strconv_underscoreOK.rk) (bodyOf Tryd.f111) 127 (cut Tryd.prog Ginternal_strconv_underscoreOK.fr127 Ginternal_strconv_underscoreOK.ou127 (Ginternal_strconv_underscoreOK.T127)) :=
  cut_ok Ginternal_strconv_underscoreOK.hρ (Λ := Ginternal_strconv_underscoreOK.Λ1) (cuts_cons (Ginternal_strconv_underscoreOK.c508 A w0) (cuts_nil)) (by kernel_rfl) (by kernel_rfl) (D := 64) (c := nodeOf Tryd.f111 127) (by kernel_rfl) (by kernel_rfl) (fun x κ => by kernel_rfl)
theorem Ginternal_strconv_underscoreOK.c31 (A : Ks) (w0 : World) : CutOk Tryd.prog ⟨Tryd.f111.ntmps, 0, A⟩ w0 (kRet Tryd.prog Tryd.f111.results.toList Ginternal_strconv_underscoreOK.rk) (bodyOf Tryd.f111) 31 (cut Tryd.prog Ginternal_strconv_underscoreOK.fr31 Ginternal_strconv_underscoreOK.ou31 (Ginternal_strconv_underscoreOK.T31)) :=
  cut_ok Ginternal_strconv_underscoreOK.hρ (Λ := Ginternal_strconv_underscoreOK.Λ2) (cuts_cons (Ginternal_strconv_underscoreOK.c127 A w0) (cuts_cons (Ginternal_strconv_underscoreOK.c508 A w0) (cuts_nil))) (by kernel_rfl) (by kernel_rfl) (D := 64) (c := nodeOf Tryd.f111 31) (by kernel_rfl) (by kernel_rfl) (fun x κ => by kernel_rfl)
theorem Ginternal_strconv_underscoreOK.spec : Spec Tryd.prog 111 Ginternal_strconv_underscoreOK.pk Ginternal_strconv_underscoreOK.rk Ginternal_strconv_underscoreOK.g :=
  spec_of_body (fn := Tryd.f111) (c := bodyOf Tryd.f111) (by kernel_rfl) (by kernel_rfl) (by kernel_rfl) (by kernel_rfl) (ρ := Ginternal_strconv_underscoreOK.ρ) Ginternal_strconv_underscoreOK.hρ (Λ := Ginternal_strconv_underscoreOK.Λ) (fun A w0 => cuts_cons (Ginternal_strconv_underscoreOK.c31 A w0) (cuts_cons (Ginternal_strconv_underscoreOK.c127 A w0) (cuts_cons (Ginternal_strconv_underscoreOK.c508 A w0) (cuts_nil)))) (fun x => by kernel_rfl)

/-! ### 99 internal/strconv.ParseUint -/
def Ginternal_strconv_ParseUint.p8387175 (v1 : Int) (v8 : Bool) (v9 : ByteArray) (v10 : Int) (v11 : Int) (v12 : Bool) (v13 : Int) (v16 : Int) (v99 : List D) (v100 : Int) (v101 : Int) (κ0 : (Int × Bool × ByteArray × Int × Int × Bool × Int × List D × Int × Int) → Option (Int × Nat)) : Option (Int × Nat) :=
  bif decide (v16 ≥ (IntKind.u8.wrap v1)) then some (0, 1012) else bif decide (v13 ≥ v10) then some (v11, 1011) else bif ((decide ((IntKind.u64.wrap ((IntKind.u64.wrap (v13 * (IntKind.u64.wrap v1))) + (IntKind.u64.wrap v16))) < (IntKind.u64.wrap (v13 * (IntKind.u64.wrap v1))))) || (decide ((IntKind.u64.wrap ((IntKind.u64.wrap (v13 * (IntKind.u64.wrap v1))) + (IntKind.u64.wrap v16))) > v11))) then some (v11, 1011) else κ0 (v1, v8, v9, v10, v11, v12, (IntKind.u64.wrap ((IntKind.u64.wrap (v13 * (IntKind.u64.wrap v1))) + (IntKind.u64.wrap v16))), v99, v100, v101)
def Ginternal_strconv_ParseUint.l32762 : Nat → Int → Bool → ByteArray → Int → Int → Bool → Int → (List D) → Int → Int → ((ByteArray × Bool × Int) → Option (Int × Nat)) → Option (Int × Nat)
  | 0, _, _, _, _, _, _, _, _, _, _, _ => none
  | k + 1, v1, v8, v9, v10, v11, v12, v13, v99, v100, v101, κ4 =>
    bif decide (v101 < v100) then gd (inB v101 v99.length) (bif ((((rd v99 v101.toNat).int) == 95) && v8) then Ginternal_strconv_ParseUint.l32762 k v1 v8 v9 v10 v11 true v13 v99 v100 (IntKind.i64.wrap (v101 + 1)) κ4 else bif ((decide ((48 : Int) ≤ ((rd v99 v101.toNat).int))) && (decide (((rd v99 v101.toNat).int) ≤ 57))) then Ginternal_strconv_ParseUint.p8387175 v1 v8 v9 v10 v11 v12 v13 (IntKind.u8.wrap (((rd v99 v101.toNat).int) - 48)) v99 v100 v101 (fun y1 => Ginternal_strconv_ParseUint.l32762 k y1.1 y1.2.1 y1.2.2.1 y1.2.2.2.1 y1.2.2.2.2.1 y1.2.2.2.2.2.1 y1.2.2.2.2.2.2.1 y1.2.2.2.2.2.2.2.1 y1.2.2.2.2.2.2.2.2.1 (IntKind.i64.wrap (y1.2.2.2.2.2.2.2.2.2 + 1)) κ4) else (Ginternal_strconv_lower.f ((rd v99 v101.toNat).int)).bind fun r2 => (bif (decide ((97 : Int) ≤ r2)) then Ginternal_strconv_lower.f ((rd v99 v101.toNat).int) else some 0).bind fun r3 => bif ((decide ((97 : Int) ≤ r2)) && (decide (r3 ≤ 122))) then (Ginternal_strconv_lower.f ((rd v99 v101.toNat).int)).bind fun r4 => Ginternal_strconv_ParseUint.p8387175 v1 v8 v9 v10 v11 v12 v13 (IntKind.u8.wrap ((IntKind.u8.wrap (r4 - 97)) + 10)) v99 v100 v101 (fun y5 => Ginternal_strconv_ParseUint.l32762 k y5.1 y5.2.1 y5.2.2.1 y5.2.2.2.1 y5.2.2.2.2.1 y5.2.2.2.2.2.1 y5.2.2.2.2.2.2.1 y5.2.2.2.2.2.2.2.1 y5.2.2.2.2.2.2.2.2.1 (IntKind.i64.wrap (y5.2.2.2.2.2.2.2.2.2 + 1)) κ4) else some (0, 1012)) else κ4 (v9, v12, v13)
def Ginternal_strconv_ParseUint.p511 (v0 : ByteArray) (v1 : Int) (v2 : Int) (v8 : Bool) (v9 : ByteArray) (v10 : Int) : Option (Int × Nat) :=
  gd (decide (0 ≤ (IntKind.u64.wrap v2))) (Ginternal_strconv_ParseUint.l32762 NN v1 v8 v9 v10 (IntKind.u64.wrap ((IntKind.u64.wrap ((1 : Int) * 2 ^ (min ((IntKind.u64.wrap v2)).toNat (IntKind.u64).bits))) - 1)) false 0 (ubytes v0) ((ubytes v0).length : Int) 0 (fun y6 => (bif y6.2.1 then Ginternal_strconv_underscoreOK.f y6.1 else some false).bind fun r7 => bif (y6.2.1 && (!r7)) then some (0, 1012) else some (y6.2.2, 0)))
def Ginternal_strconv_ParseUint.p127 (v0 : ByteArray) (v1 : Int) (v2 : Int) (v8 : Bool) (v9 : ByteArray) : Option (Int × Nat) :=
  bif (v1 == 10) then Ginternal_strconv_ParseUint.p511 v0 v1 v2 v8 v9 1844674407370955162 else bif (v1 == 16) then Ginternal_strconv_ParseUint.p511 v0 v1 v2 v8 v9 1152921504606846976 else gd (!((IntKind.u64.wrap v1) == 0)) (Ginternal_strconv_ParseUint.p511 v0 v1 v2 v8 v9 (IntKind.u64.wrap ((IntKind.u64.wrap ((18446744073709551615 : Int).tdiv (IntKind.u64.wrap v1))) + 1)))
def Ginternal_strconv_ParseUint.p63 (v0 : ByteArray) (v1 : Int) (v2 : Int) (v8 : Bool) (v9 : ByteArray) : Option (Int × Nat) :=
  bif (v2 == 0) then Ginternal_strconv_ParseUint.p127 v0 v1 64 v8 v9 else bif ((decide (v2 < 0)) || (decide (v2 > 64))) then some (0, 1014) else Ginternal_strconv_ParseUint.p127 v0 v1 v2 v8 v9
def Ginternal_strconv_ParseUint.f (a0 : ByteArray) (a1 : Int) (a2 : Int) : Option (Int × Nat) :=
  bif (a0.toList == strNil.toList) then some (0, 1012) else bif ((decide ((2 : Int) ≤ a1)) && (decide (a1 ≤ 36))) then Ginternal_strconv_ParseUint.p63 a0 a1 a2 (a1 == 0) a0 else bif (a1 == 0) then gd (inB 0 a0.size) (bif ((bt a0 0) == 48) then gd ((!(decide ((a0.size : Int) ≥ 3))) || (inB 1 a0.size)) ((bif (decide ((a0.size : Int) ≥ 3)) then Ginternal_strconv_lower.f (bt a0 1) else some 0).bind fun r8 => bif ((decide ((a0.size : Int) ≥ 3)) && (r8 == 98)) then gd (decide (0 ≤ (2 : Int)) && decide (2 ≤ (a0.size : Int))) (Ginternal_strconv_ParseUint.p63 (a0.extract 2 a0.size) 2 a2 (a1 == 0) a0) else gd ((!(decide ((a0.size : Int) ≥ 3))) || (inB 1 a0.size)) ((bif (decide ((a0.size : Int) ≥ 3)) then Ginternal_strconv_lower.f (bt a0 1) else some 0).bind fun r9 => bif ((decide ((a0.size : Int) ≥ 3)) && (r9 == 111)) then gd (decide (0 ≤ (2 : Int)) && decide (2 ≤ (a0.size : Int))) (Ginternal_strconv_ParseUint.p63 (a0.extract 2 a0.size) 8 a2 (a1 == 0) a0) else gd ((!(decide ((a0.size : Int) ≥ 3))) || (inB 1 a0.size)) ((bif (decide ((a0.size : Int) ≥ 3)) then Ginternal_strconv_lower.f (bt a0 1) else some 0).bind fun r10 => bif ((decide ((a0.size : Int) ≥ 3)) && (r10 == 120)) then gd (decide (0 ≤ (2 : Int)) && decide (2 ≤ (a0.size : Int))) (Ginternal_strconv_ParseUint.p63 (a0.extract 2 a0.size) 16 a2 (a1 == 0) a0) else gd (decide (0 ≤ (1 : Int)) && decide (1 ≤ (a0.size : Int))) (Ginternal_strconv_ParseUint.p63 (a0.extract 1 a0.size) 8 a2 (a1 == 0) a0)))) else Ginternal_strconv_ParseUint.p63 a0 10 a2 (a1 == 0) a0) else some (0, 1013)
def Ginternal_strconv_ParseUint.pk : List FK := [.str, .int .i64, .int .i64]
def Ginternal_strconv_ParseUint.rk : List FK := [.int .u64, .err]
def Ginternal_strconv_ParseUint.g : Tp Ginternal_strconv_ParseUint.pk → Option (Tp Ginternal_strconv_ParseUint.rk) := fun x => Ginternal_strconv_ParseUint.f x.1 x.2.1 x.2.2
def Ginternal_strconv_ParseUint.ρ : List (Entry (Tp Ginternal_strconv_ParseUint.rk)) := [entry _ Tryd.prog 110 Ginternal_strconv_lower.pk Ginternal_strconv_lower.rk Ginternal_strconv_lower.g, entry _ Tryd.prog 111 Ginternal_strconv_underscoreOK.pk Ginternal_strconv_underscoreOK.rk Ginternal_strconv_underscoreOK.g]
theorem Ginternal_strconv_ParseUint.hρ : ∀ e ∈ Ginternal_strconv_ParseUint.ρ, EntryOk Tryd.prog e :=
  ents_cons (ent (fn := Tryd.f110) Ginternal_strconv_lower.spec (by kernel_rfl) (by kernel_rfl) (by kernel_rfl) (by kernel_rfl)) (ents_cons (ent (fn := Tryd.f111) Ginternal_strconv_underscoreOK.spec (by kernel_rfl) (by kernel_rfl) (by kernel_rfl) (by kernel_rfl)) (ents_nil))
def Ginternal_strconv_ParseUint.fr8387175 : Fr := [(1, .int .i64), (8, .bool), (9, .str), (10, .int .u64), (11, .int .u64), (12, .bool), (13, .int .u64), (16, .int .u8), (99, .sl 5), (100, .int .i64), (101, .int .i64)]
def Ginternal_strconv_ParseUint.ou8387175 : Outs := [(0, [(1, .int .i64), (8, .bool), (9, .str), (10, .int .u64), (11, .int .u64), (12, .bool), (13, .int .u64), (99, .sl 5), (100, .int .i64), (101, .int .i64)])]
def Ginternal_strconv_ParseUint.T8387175 (x : Ginternal_strconv_ParseUint.fr8387175.T) (κ : Kp (Tp Ginternal_strconv_ParseUint.rk) Ginternal_strconv_ParseUint.ou8387175) : Option (Tp Ginternal_strconv_ParseUint.rk) := Ginternal_strconv_ParseUint.p8387175 x.1 x.2.1 x.2.2.1 x.2.2.2.1 x.2.2.2.2.1 x.2.2.2.2.2.1 x.2.2.2.2.2.2.1 x.2.2.2.2.2.2.2.1 x.2.2.2.2.2.2.2.2.1 x.2.2.2.2.2.2.2.2.2.1 x.2.2.2.2.2.2.2.2.2.2 κ.1
def Ginternal_strconv_ParseUint.fr32762 : Fr := [(1, .int .i64), (8, .bool), (9, .str), (10, .int .u64), (11, .int .u64), (12, .bool), (13, .int .u64), (99, .sl 5), (100, .int .i64), (101, .int .i64)]
def Ginternal_strconv_ParseUint.ou32762 : Outs := [(4, [(9, .str), (12, .bool), (13, .int .u64)])]
def Ginternal_strconv_ParseUint.T32762 (k : Nat) (x : Ginternal_strconv_ParseUint.fr32762.T) (κ : Kp (Tp Ginternal_strconv_ParseUint.rk) Ginternal_strconv_ParseUint.ou32762) : Option (Tp Ginternal_strconv_ParseUint.rk) := Ginternal_strconv_ParseUint.l32762 k x.1 x.2.1 x.2.2.1 x.2.2.2.1 x.2.2.2.2.1 x.2.2.2.2.2.1 x.2.2.2.2.2.2.1 x.2.2.2.2.2.2.2.1 x.2.2.2.2.2.2.2.2.1 x.2.2.2.2.2.2.2.2.2 κ.1
def Ginternal_strconv_ParseUint.fr511 : Fr := [(0, .str), (1, .int .i64), (2, .int .i64), (8, .bool), (9, .str), (10, .int .u64)]
def Ginternal_strconv_ParseUint.ou511 : Outs := []
def Ginternal_strconv_ParseUint.T511 (x : Ginternal_strconv_ParseUint.fr511.T) (κ : Kp (Tp Ginternal_strconv_ParseUint.rk) Ginternal_strconv_ParseUint.ou511) : Option (Tp Ginternal_strconv_ParseUint.rk) := Ginternal_strconv_ParseUint.p511 x.1 x.2.1 x.2.2.1 x.2.2.2.1 x.2.2.2.2.1 x.2.2.2.2.2
def Ginternal_strconv_ParseUint.fr127 : Fr := [(0, .str), (1, .int .i64), (2, .int .i64), (8, .bool), (9, .str)]
def Ginternal_strconv_ParseUint.ou127 : Outs := []
def Ginternal_strconv_ParseUint.T127 (x : Ginternal_strconv_ParseUint.fr127.T) (κ : Kp (Tp Ginternal_strconv_ParseUint.rk) Ginternal_strconv_ParseUint.ou127) : Option (Tp Ginternal_strconv_ParseUint.rk) := Ginternal_strconv_ParseUint.p127 x.1 x.2.1 x.2.2.1 x.2.2.2.1 x.2.2.2.2
def Ginternal_strconv_ParseUint.fr63 : Fr := [(0, .str), (1, .int .i64), (2, .int .i64), (8, .bool), (9, .str)]
def Ginternal_strconv_ParseUint.ou63 : Outs := []
def Ginternal_strconv_ParseUint.T63 (x : Ginternal_strconv_ParseUint.fr63.T) (κ : Kp (Tp Ginternal_strconv_ParseUint.rk) Ginternal_strconv_ParseUint.ou63) : Option (Tp Ginternal_strconv_ParseUint.rk) := Ginternal_strconv_ParseUint.p63 x.1 x.2.1 x.2.2.1 x.2.2.2.1 x.2.2.2.2
def Ginternal_strconv_ParseUint.Λ0 : Cuts (Tp Ginternal_strconv_ParseUint.rk) := cutsOf []
def Ginternal_strconv_ParseUint.Λ1 : Cuts (Tp Ginternal_strconv_ParseUint.rk) := cutsOf [(8387175, cut Tryd.prog Ginternal_strconv_ParseUint.fr8387175 Ginternal_strconv_ParseUint.ou8387175 (Ginternal_strconv_ParseUint.T8387175))]
def Ginternal_strconv_ParseUint.Λ2 : Cuts (Tp Ginternal_strconv_ParseUint.rk) := cutsOf [(32762, cut Tryd.prog Ginternal_strconv_ParseUint.fr32762 Ginternal_strconv_ParseUint.ou32762 (Ginternal_strconv_ParseUint.T32762 NN)), (8387175, cut Tryd.prog Ginternal_strconv_ParseUint.fr8387175 Ginternal_strconv_ParseUint.ou8387175 (Ginternal_strconv_ParseUint.T8387175))]
def Ginternal_strconv_ParseUint.Λ3 : Cuts (Tp Ginternal_strconv_ParseUint.rk) := cutsOf [(511, cut Tryd.prog Ginternal_strconv_ParseUint.fr511 Ginternal_strconv_ParseUint.ou511 (Ginternal_strconv_ParseUint.T511)), (32762, cut Tryd.prog Ginternal_strconv_ParseUint.fr32762 Ginternal_strconv_ParseUint.ou32762 (Ginternal_strconv_ParseUint.T32762 NN)), (8387175, cut Tryd.prog Ginternal_strconv_ParseUint.fr8387175 Ginternal_strconv_ParseUint.ou8387175 (Ginternal_strconv_ParseUint.T8387175))]
def Ginternal_strconv_ParseUint.Λ4 : Cuts (Tp Ginternal_strconv_ParseUint.rk) := cutsOf [(127, cut Tryd.prog Ginternal_strconv_ParseUint.fr127 Ginternal_strconv_ParseUint.ou127 (Ginternal_strconv_ParseUint.T127)), (511, cut Tryd.prog Ginternal_strconv_ParseUint.fr511 Ginternal_strconv_ParseUint.ou511 (Ginternal_strconv_ParseUint.T511)), (32762, cut Tryd.prog Ginternal_strconv_ParseUint.fr32762 Ginternal_strconv_ParseUint.ou32762 (Ginternal_strconv_ParseUint.T32762 NN)), (8387175, cut Tryd.prog Ginternal_strconv_ParseUint.fr8387175 Ginternal_strconv_ParseUint.ou8387175 (Ginternal_strconv_ParseUint.T8387175))]
def Ginternal_strconv_ParseUint.Λ : Cuts (Tp Ginternal_strconv_ParseUint.rk) := cutsOf [(63, cut Tryd.prog Ginternal_strconv_ParseUint.fr63 Ginternal_strconv_ParseUint.ou63 (Ginternal_strconv_ParseUint.T63)), (127, cut Tryd.prog Ginternal_strconv_ParseUint.fr127 Ginternal_strconv_ParseUint.ou127 (Ginternal_strconv_ParseUint.T127)), (511, cut Tryd.prog Ginternal_strconv_ParseUint.fr511 Ginternal_strconv_ParseUint.ou511 (Ginternal_strconv_ParseUint.T511)), (32762, cut Tryd.prog Ginternal_strconv_ParseUint.fr32762 Ginternal_strconv_ParseUint.ou32762 (Ginternal_strconv_ParseUint.T32762 NN)), (8387175, cut Tryd.prog Ginternal_strconv_ParseUint.fr8387175 Ginternal_strconv_ParseUint.ou8387175 (Ginternal_strconv_ParseUint.T8387175))]
theorem Ginternal_strconv_ParseUint.c8387175 (A : Ks) (w0 : World) : CutOk Tryd.prog ⟨Tryd.f99.ntmps, 0, A⟩ w0 (kRet Tryd.prog Tryd.f99.results.toList Ginternal_strconv_ParseUint.rk) (bodyOf Tryd.f99) 8387175 (cut Tryd.prog Ginternal_strconv_ParseUint.fr8387175 Ginternal_strconv_ParseUint.ou8387175 (Ginternal_strconv_ParseUint.T8387175)) :=
  cut_ok Ginternal_strconv_ParseUint.hρ (Λ := Ginternal_strconv_ParseUint.Λ0) (cuts_nil) (by kernel_rfl) (by kernel_rfl) (D := 64) (c := nodeOf Tryd.f99 8387175) (by kernel_rfl) (by kernel_rfl) (fun x κ => by kernel_rfl)
theorem Ginternal_strconv_ParseUint.c32762 (A : Ks) (w0 : World) : CutOk Tryd.prog ⟨Tryd.f99.ntmps, 0, A⟩ w0 (kRet Tryd.prog Tryd.f99.results.toList Ginternal_strconv_ParseUint.rk) (bodyOf Tryd.f99) 32762 (cut Tryd.prog Ginternal_strconv_ParseUint.fr32762 Ginternal_strconv_ParseUint.ou32762 (Ginternal_strconv_ParseUint.T32762 NN)) :=
  loop_ok Ginternal_strconv_ParseUint.hρ (Λ := Ginternal_strconv_ParseUint.Λ1) (cuts_cons (Ginternal_strconv_ParseUint.c8387175 A w0) (cuts_nil)) (by kernel_rfl) (D := 64) (b := loopOf Tryd.f99 32762) (by kernel_rfl) (by kernel_rfl) NN (fun x κ => by kernel_rfl) (fun k x κ => by kernel_rfl)
theorem Ginternal_strconv_ParseUint.c511 (A : Ks) (w0 : World) : CutOk Tryd.prog ⟨Tryd.f99.ntmps, 0, A⟩ w0 (kRet Tryd.prog Tryd.f99.results.toList Ginternal_strconv_ParseUint.rk) (bodyOf Tryd.f99) 511 (cut Tryd.prog Ginternal_strconv_ParseUint.fr511 Ginternal_strconv_ParseUint.ou511 (Ginternal_strconv_ParseUint.T511)) :=
  cut_ok Ginternal_strconv_ParseUint.hρ (Λ := Ginternal_strconv_ParseUint.Λ2) (cuts_cons (Ginternal_strconv_ParseUint.c32762 A w0) (cuts_cons (Ginternal_strconv_ParseUint.c8387175 A w0) (cuts_nil))) (by kernel_rfl) (by kernel_rfl) (D := 64) (c := nodeOf Tryd.f99 511) (by kernel_rfl) (by kernel_rfl) (fun x κ => by kernel_rfl)
theorem Ginternal_strconv_ParseUint.c127 (A : Ks) (w0 : World) : CutOk Tryd.prog ⟨Tryd.f99.ntmps, 0, A⟩ w0 (kRet Tryd.prog Tryd.f99.results.toList Ginternal_strconv_ParseUint.rk) (bodyOf Tryd.f99) 127 (cut Tryd.prog Ginternal_strconv_ParseUint.fr127 Ginternal_strconv_ParseUint.ou127 (Ginternal_strconv_ParseUint.T127)) :=
  cut_ok Ginternal_strconv_ParseUint.hρ (Λ := Ginternal_strconv_ParseUint.Λ3) (cuts_cons (Ginternal_strconv_ParseUint.c511 A w0) (cuts_cons (Ginternal_strconv_ParseUint.c32762 A w0) (cuts_cons (Ginternal_strconv_ParseUint.c8387175 A w0) (cuts_nil)))) (by kernel_rfl) (by kernel_rfl) (D := 64) (c := nodeOf Tryd.f99 127) (by kernel_rfl) (by kernel_rfl) (fun x κ => by kernel_rfl)
theorem Ginternal_strconv_ParseUint.c63 (A : Ks) (w0 : World) : CutOk Tryd.prog ⟨Tryd.f99.ntmps, 0, A⟩ w0 (kRet Tryd.prog Tryd.f99.results.toList Ginternal_strconv_ParseUint.rk) (bodyOf Tryd.f99) 63 (cut Tryd.prog Ginternal_strconv_ParseUint.fr63 Ginternal_strconv_ParseUint.ou63 (Ginternal_strconv_ParseUint.T63)) :=
  cut_ok Ginternal_strconv_ParseUint.hρ (Λ := Ginternal_strconv_ParseUint.Λ4) (cuts_cons (Ginternal_strconv_ParseUint.c127 A w0) (cuts_cons (Ginternal_strconv_ParseUint.c511 A w0) (cuts_cons (Ginternal_strconv_ParseUint.c32762 A w0) (cuts_cons (Ginternal_strconv_ParseUint.c8387175 A w0) (cuts_nil))))) (by kernel_rfl) (by kernel_rfl) (D := 64) (c := nodeOf Tryd.f99 63) (by kernel_rfl) (by kernel_rfl) (fun x κ => by kernel_rfl)
theorem Ginternal_strconv_ParseUint.spec : Spec Tryd.prog 99 Ginternal_strconv_ParseUint.pk Ginternal_strconv_ParseUint.rk Ginternal_strconv_ParseUint.g :=
  spec_of_body (fn := Tryd.f99) (c := bodyOf Tryd.f99) (by kernel_rfl) (by kernel_rfl) (by kernel_rfl) (by kernel_rfl) (ρ := Ginternal_strconv_ParseUint.ρ) Ginternal_strconv_ParseUint.hρ (Λ := Ginternal_strconv_ParseUint.Λ) (fun A w0 => cuts_cons (Ginternal_strconv_ParseUint.c63 A w0) (cuts_cons (Ginternal_strconv_ParseUint.c127 A w0) (cuts_cons (Ginternal_strconv_ParseUint.c511 A w0) (cuts_cons (Ginternal_strconv_ParseUint.c32762 A w0) (cuts_cons (Ginternal_strconv_ParseUint.c8387175 A w0) (cuts_nil)))))) (fun x => by kernel_rfl)

/-! ### 86 strconv.ParseUint -/
def Gstrconv_ParseUint.f (a0 : ByteArray) (a1 : Int) (a2 : Int) : Option (Int × Nat) :=
  (Ginternal_strconv_ParseUint.f a0 a1 a2).bind fun r1 => bif (!(Nat.beq r1.2 0)) then (Gstrconv_toError.f str506172736555696e74 a0 a1 a2 r1.2).bind fun r2 => some (r1.1, r2) else some (r1.1, 0)
def Gstrconv_ParseUint.pk : List FK := [.str, .int .i64, .int .i64]
def Gstrconv_ParseUint.rk : List FK := [.int .u64, .err]
def Gstrconv_ParseUint.g : Tp Gstrconv_ParseUint.pk → Option (Tp Gstrconv_ParseUint.rk) := fun x => Gstrconv_ParseUint.f x.1 x.2.1 x.2.2
def Gstrconv_ParseUint.ρ : List (Entry (Tp Gstrconv_ParseUint.rk)) := [entry _ Tryd.prog 99 Ginternal_strconv_ParseUint.pk Ginternal_strconv_ParseUint.rk Ginternal_strconv_ParseUint.g, entry _ Tryd.prog 100 Gstrconv_toError.pk Gstrconv_toError.rk Gstrconv_toError.g]
theorem Gstrconv_ParseUint.hρ : ∀ e ∈ Gstrconv_ParseUint.ρ, EntryOk Tryd.prog e :=
  ents_cons (ent (fn := Tryd.f99) Ginternal_strconv_ParseUint.spec (by kernel_rfl) (by kernel_rfl) (by kernel_rfl) (by kernel_rfl)) (ents_cons (ent (fn := Tryd.f100) Gstrconv_toError.spec (by kernel_rfl) (by kernel_rfl) (by kernel_rfl) (by kernel_rfl)) (ents_nil))
def Gstrconv_ParseUint.Λ : Cuts (Tp Gstrconv_ParseUint.rk) := cutsOf []
theorem Gstrconv_ParseUint.spec : Spec Tryd.prog 86 Gstrconv_ParseUint.pk Gstrconv_ParseUint.rk Gstrconv_ParseUint.g :=
  spec_of_body (fn := Tryd.f86) (c := bodyOf Tryd.f86) (by kernel_rfl) (by kernel_rfl) (by kernel_rfl) (by kernel_rfl) (ρ := Gstrconv_ParseUint.ρ) Gstrconv_ParseUint.hρ (Λ := Gstrconv_ParseUint.Λ) (fun A w0 => cuts_nil) (fun x => by kernel_rfl)

/-! ### (84, None, 85) (*bluebell/lex.scanner).run -/
def Glex_scanner__run_85.l28 : Nat → ((ByteArray × Int × List (D × D) × Unit)) → Unit → Int → (((ByteArray × Int × List (D × D) × Unit) × Int) → Option (ByteArray × (ByteArray × Int × List (D × D) × Unit))) → Option (ByteArray × (ByteArray × Int × List (D × D) × Unit))
  | 0, _, _, _, _ => none
  | k + 1, v0, v1, v5, κ1 =>
    gd ((!(decide (v0.2.1 < (v0.1.size : Int)))) || (inB v0.2.1 v0.1.size)) ((bif (decide (v0.2.1 < (v0.1.size : Int))) then Glex_hex.f (bt v0.1 v0.2.1.toNat) else some false).bind fun r1 => bif ((decide (v0.2.1 < (v0.1.size : Int))) && r1) then Glex_scanner__run_85.l28 k (v0.1, (IntKind.i64.wrap (v0.2.1 + 1)), v0.2.2.1, ()) () v5 κ1 else κ1 ((v0.1, v0.2.1, v0.2.2.1, ()), v5))
def Glex_scanner__run_85.f (a0 : (ByteArray × Int × List (D × D) × Unit)) (a1 : Unit) : Option (ByteArray × (ByteArray × Int × List (D × D) × Unit)) :=
  Glex_scanner__run_85.l28 NN (a0.1, a0.2.1, a0.2.2.1, ()) () a0.2.1 (fun y2 => gd (decide (0 ≤ y2.2) && (decide (y2.2 ≤ y2.1.2.1) && decide (y2.1.2.1 ≤ (y2.1.1.size : Int)))) (some ((y2.1.1.extract y2.2.toNat y2.1.2.1.toNat), (y2.1.1, y2.1.2.1, y2.1.2.2.1, ()))))
def Glex_scanner__run_85.pk : List FK := [.bx (.cn (.str) (.cn (.int .i64) (.cn (.mp 9 4) (.ce)))), .fn 85]
def Glex_scanner__run_85.rk : List FK := [.str, .bx (.cn (.str) (.cn (.int .i64) (.cn (.mp 9 4) (.ce))))]
def Glex_scanner__run_85.g : Tp Glex_scanner__run_85.pk → Option (Tp Glex_scanner__run_85.rk) := fun x => Glex_scanner__run_85.f x.1 x.2
def Glex_scanner__run_85.ρ : List (Entry (Tp Glex_scanner__run_85.rk)) := [entry _ Tryd.prog 85 Glex_hex.pk Glex_hex.rk Glex_hex.g]
theorem Glex_scanner__run_85.hρ : ∀ e ∈ Glex_scanner__run_85.ρ, EntryOk Tryd.prog e :=
  ents_cons (ent (fn := Tryd.f85) Glex_hex.spec (by kernel_rfl) (by kernel_rfl) (by kernel_rfl) (by kernel_rfl)) (ents_nil)
def Glex_scanner__run_85.fr28 : Fr := [(0, .bx (.cn (.str) (.cn (.int .i64) (.cn (.mp 9 4) (.ce))))), (1, .fn 85), (5, .int .i64)]
def Glex_scanner__run_85.ou28 : Outs := [(1, [(0, .bx (.cn (.str) (.cn (.int .i64) (.cn (.mp 9 4) (.ce))))), (5, .int .i64)])]
def Glex_scanner__run_85.T28 (k : Nat) (x : Glex_scanner__run_85.fr28.T) (κ : Kp (Tp Glex_scanner__run_85.rk) Glex_scanner__run_85.ou28) : Option (Tp Glex_scanner__run_85.rk) := Glex_scanner__run_85.l28 k x.1 x.2.1 x.2.2 κ.1
def Glex_scanner__run_85.Λ0 : Cuts (Tp Glex_scanner__run_85.rk) := cutsOf []
def Glex_scanner__run_85.Λ : Cuts (Tp Glex_scanner__run_85.rk) := cutsOf [(28, cut Tryd.prog Glex_scanner__run_85.fr28 Glex_scanner__run_85.ou28 (Glex_scanner__run_85.T28 NN))]
theorem Glex_scanner__run_85.c28 (A : Ks) (w0 : World) : CutOk Tryd.prog ⟨Tryd.f84.ntmps, 2, A⟩ w0 (kRetIO Tryd.prog [0] Tryd.f84.results.toList Glex_scanner__run_85.rk) (bodyOf Tryd.f84) 28 (cut Tryd.prog Glex_scanner__run_85.fr28 Glex_scanner__run_85.ou28 (Glex_scanner__run_85.T28 NN)) :=
  loop_ok Glex_scanner__run_85.hρ (Λ := Glex_scanner__run_85.Λ0) (cuts_nil) (by kernel_rfl) (D := 64) (b := loopOf Tryd.f84 28) (by kernel_rfl) (by kernel_rfl) NN (fun x κ => by kernel_rfl) (fun k x κ => by kernel_rfl)
theorem Glex_scanner__run_85.spec : SpecIO Tryd.prog 84 Glex_scanner__run_85.pk [0] Glex_scanner__run_85.rk Glex_scanner__run_85.g :=
  spec_io_of_body (fn := Tryd.f84) (c := bodyOf Tryd.f84) (by kernel_rfl) (by kernel_rfl) (by kernel_rfl) (np := 2) (by kernel_rfl) (by kernel_rfl) (by kernel_rfl) (ρ := Glex_scanner__run_85.ρ) Glex_scanner__run_85.hρ (Λ := Glex_scanner__run_85.Λ) (fun A w0 => cuts_cons (Glex_scanner__run_85.c28 A w0) (cuts_nil)) (fun x => by kernel_rfl)

/-! ### (84, None, 58) (*bluebell/lex.scanner).run -/
def Glex_scanner__run_58.l28 : Nat → ((ByteArray × Int × List (D × D) × Unit)) → Unit → Int → (((ByteArray × Int × List (D × D) × Unit) × Int) → Option (ByteArray × (ByteArray × Int × List (D × D) × Unit))) → Option (ByteArray × (ByteArray × Int × List (D × D) × Unit))
  | 0, _, _, _, _ => none
  | k + 1, v0, v1, v5, κ1 =>
    gd ((!(decide (v0.2.1 < (v0.1.size : Int)))) || (inB v0.2.1 v0.1.size)) ((bif (decide (v0.2.1 < (v0.1.size : Int))) then Glex_digit.f (bt v0.1 v0.2.1.toNat) else some false).bind fun r1 => bif ((decide (v0.2.1 < (v0.1.size : Int))) && r1) then Glex_scanner__run_58.l28 k (v0.1, (IntKind.i64.wrap (v0.2.1 + 1)), v0.2.2.1, ()) () v5 κ1 else κ1 ((v0.1, v0.2.1, v0.2.2.1, ()), v5))
def Glex_scanner__run_58.f (a0 : (ByteArray × Int × List (D × D) × Unit)) (a1 : Unit) : Option (ByteArray × (ByteArray × Int × List (D × D) × Unit)) :=
  Glex_scanner__run_58.l28 NN (a0.1, a0.2.1, a0.2.2.1, ()) () a0.2.1 (fun y2 => gd (decide (0 ≤ y2.2) && (decide (y2.2 ≤ y2.1.2.1) && decide (y2.1.2.1 ≤ (y2.1.1.size : Int)))) (some ((y2.1.1.extract y2.2.toNat y2.1.2.1.toNat), (y2.1.1, y2.1.2.1, y2.1.2.2.1, ()))))
def Glex_scanner__run_58.pk : List FK := [.bx (.cn (.str) (.cn (.int .i64) (.cn (.mp 9 4) (.ce)))), .fn 58]
def Glex_scanner__run_58.rk : List FK := [.str, .bx (.cn (.str) (.cn (.int .i64) (.cn (.mp 9 4) (.ce))))]
def Glex_scanner__run_58.g : Tp Glex_scanner__run_58.pk → Option (Tp Glex_scanner__run_58.rk) := fun x => Glex_scanner__run_58.f x.1 x.2
def Glex_scanner__run_58.ρ : List (Entry (Tp Glex_scanner__run_58.rk)) := [entry _ Tryd.prog 58 Glex_digit.pk Glex_digit.rk Glex_digit.g]
theorem Glex_scanner__run_58.hρ : ∀ e ∈ Glex_scanner__run_58.ρ, EntryOk Tryd.prog e :=
  ents_cons (ent (fn := Tryd.f58) Glex_digit.spec (by kernel_rfl) (by kernel_rfl) (by kernel_rfl) (by kernel_rfl)) (ents_nil)
def Glex_scanner__run_58.fr28 : Fr := [(0, .bx (.cn (.str) (.cn (.int .i64) (.cn (.mp 9 4) (.ce))))), (1, .fn 58), (5, .int .i64)]
def Glex_scanner__run_58.ou28 : Outs := [(1, [(0, .bx (.cn (.str) (.cn (.int .i64) (.cn (.mp 9 4) (.ce))))), (5, .int .i64)])]
def Glex_scanner__run_58.T28 (k : Nat) (x : Glex_scanner__run_58.fr28.T) (κ : Kp (Tp Glex_scanner__run_58.rk) Glex_scanner__run_58.ou28) : Option (Tp Glex_scanner__run_58.rk) := Glex_scanner__run_58.l28 k x.1 x.2.1 x.2.2 κ.1
def Glex_scanner__run_58.Λ0 : Cuts (Tp Glex_scanner__run_58.rk) := cutsOf []
def Glex_scanner__run_58.Λ : Cuts (Tp Glex_scanner__run_58.rk) := cutsOf [(28, cut Tryd.prog Glex_scanner__run_58.fr28 Glex_scanner__run_58.ou28 (Glex_scanner__run_58.T28 NN))]
theorem Glex_scanner__run_58.c28 (A : Ks) (w0 : World) : CutOk Tryd.prog ⟨Tryd.f84.ntmps, 2, A⟩ w0 (kRetIO Tryd.prog [0] Tryd.f84.results.toList Glex_scanner__run_58.rk) (bodyOf Tryd.f84) 28 (cut Tryd.prog Glex_scanner__run_58.fr28 Glex_scanner__run_58.ou28 (Glex_scanner__run_58.T28 NN)) :=
  loop_ok Glex_scanner__run_58.hρ (Λ := Glex_scanner__run_58.Λ0) (cuts_nil) (by kernel_rfl) (D := 64) (b := loopOf Tryd.f84 28) (by kernel_rfl) (by kernel_rfl) NN (fun x κ => by kernel_rfl) (fun k x κ => by kernel_rfl)
theorem Glex_scanner__run_58.spec : SpecIO Tryd.prog 84 Glex_scanner__run_58.pk [0] Glex_scanner__run_58.rk Glex_scanner__run_58.g :=
  spec_io_of_body (fn := Tryd.f84) (c := bodyOf Tryd.f84) (by kernel_rfl) (by kernel_rfl) (by kernel_rfl) (np := 2) (by kernel_rfl) (by kernel_rfl) (by kernel_rfl) (ρ := Glex_scanner__run_58.ρ) Glex_scanner__run_58.hρ (Λ := Glex_scanner__run_58.Λ) (fun A w0 => cuts_cons (Glex_scanner__run_58.c28 A w0) (cuts_nil)) (fun x => by kernel_rfl)

/-! ### 63 (*bluebell/lex.scanner).number -/
def Glex_scanner__number.f (a0 : (ByteArray × Int × List (D × D) × Unit)) : Option (D × Int × (ByteArray × Int × List (D × D) × Unit)) :=
  gd (inB a0.2.1 a0.1.size) (bif ((bt a0.1 a0.2.1.toNat) == 35) then (Glex_scanner__run_85.f (a0.1, (IntKind.i64.wrap (a0.2.1 + 1)), a0.2.2.1, ()) ()).bind fun r1 => bif (r1.1.toList == strNil.toList) then some (.r [.i 2, .s ByteArray.empty, .i 0, .i a0.2.1], 20, (r1.2.1, r1.2.2.1, r1.2.2.2.1, ())) else (Gstrconv_ParseUint.f r1.1 16 64).bind fun r2 => bif ((!(Nat.beq r2.2 0)) || (decide (r2.1 > (IntKind.u64.wrap 4294967295)))) then some (.r [.i 2, .s ByteArray.empty, .i 0, .i a0.2.1], 22, (r1.2.1, r1.2.2.1, r1.2.2.2.1, ())) else bif decide ((IntKind.i64.wrap r2.1) ≥ 2147483648) then some (.r [.i 2, .s ByteArray.empty, .i (IntKind.i64.wrap ((IntKind.i64.wrap r2.1) - 4294967296)), .i a0.2.1], 0, (r1.2.1, r1.2.2.1, r1.2.2.2.1, ())) else some (.r [.i 2, .s ByteArray.empty, .i (IntKind.i64.wrap r2.1), .i a0.2.1], 0, (r1.2.1, r1.2.2.1, r1.2.2.2.1, ())) else (Glex_scanner__run_58.f (a0.1, a0.2.1, a0.2.2.1, ()) ()).bind fun r3 => bif (r3.1.toList == strNil.toList) then some (.r [.i 2, .s ByteArray.empty, .i 0, .i a0.2.1], 20, (r3.2.1, r3.2.2.1, r3.2.2.2.1, ())) else (Gstrconv_ParseUint.f r3.1 10 64).bind fun r4 => bif ((!(Nat.beq r4.2 0)) || (decide (r4.1 > (IntKind.u64.wrap 2147483647)))) then some (.r [.i 2, .s ByteArray.empty, .i 0, .i a0.2.1], 22, (r3.2.1, r3.2.2.1, r3.2.2.2.1, ())) else bif decide ((IntKind.i64.wrap r4.1) ≥ 2147483648) then some (.r [.i 2, .s ByteArray.empty, .i (IntKind.i64.wrap ((IntKind.i64.wrap r4.1) - 4294967296)), .i a0.2.1], 0, (r3.2.1, r3.2.2.1, r3.2.2.2.1, ())) else some (.r [.i 2, .s ByteArray.empty, .i (IntKind.i64.wrap r4.1), .i a0.2.1], 0, (r3.2.1, r3.2.2.1, r3.2.2.2.1, ())))
def Glex_scanner__number.pk : List FK := [.bx (.cn (.str) (.cn (.int .i64) (.cn (.mp 9 4) (.ce))))]
def Glex_scanner__number.rk : List FK := [.st 33, .int .i64, .bx (.cn (.str) (.cn (.int .i64) (.cn (.mp 9 4) (.ce))))]
def Glex_scanner__number.g : Tp Glex_scanner__number.pk → Option (Tp Glex_scanner__number.rk) := fun x => Glex_scanner__number.f x
def Glex_scanner__number.ρ : List (Entry (Tp Glex_scanner__number.rk)) := [altE (isFn 1 85) (entryIO _ Tryd.prog 84 Glex_scanner__run_85.pk Glex_scanner__run_85.rk 0 Glex_scanner__run_85.g) (entryIO _ Tryd.prog 84 Glex_scanner__run_58.pk Glex_scanner__run_58.rk 0 Glex_scanner__run_58.g), entry _ Tryd.prog 86 Gstrconv_ParseUint.pk Gstrconv_ParseUint.rk Gstrconv_ParseUint.g]
theorem Glex_scanner__number.hρ : ∀ e ∈ Glex_scanner__number.ρ, EntryOk Tryd.prog e :=
  ents_cons (altE_ok (entIO (fn := Tryd.f84) Glex_scanner__run_85.spec (by kernel_rfl) (by kernel_rfl) (by kernel_rfl)) (entIO (fn := Tryd.f84) Glex_scanner__run_58.spec (by kernel_rfl) (by kernel_rfl) (by kernel_rfl)) rfl) (ents_cons (ent (fn := Tryd.f86) Gstrconv_ParseUint.spec (by kernel_rfl) (by kernel_rfl) (by kernel_rfl) (by kernel_rfl)) (ents_nil))
def Glex_scanner__number.Λ : Cuts (Tp Glex_scanner__number.rk) := cutsOf []
theorem Glex_scanner__number.spec : SpecIO Tryd.prog 63 Glex_scanner__number.pk [0] Glex_scanner__number.rk Glex_scanner__number.g :=
  spec_io_of_body (fn := Tryd.f63) (c := bodyOf Tryd.f63) (by kernel_rfl) (by kernel_rfl) (by kernel_rfl) (np := 1) (by kernel_rfl) (by kernel_rfl) (by kernel_rfl) (ρ := Glex_scanner__number.ρ) Glex_scanner__number.hρ (Λ := Glex_scanner__number.Λ) (fun A w0 => cuts_nil) (fun x => by kernel_rfl)

/-! ### 87 (*bluebell/lex.scanner).char -/
def Glex_scanner__char.f (a0 : (ByteArray × Int × List (D × D) × Unit)) (a1 : Int) : Option (Int × Bool × (ByteArray × Int × List (D × D) × Unit)) :=
  bif decide (a0.2.1 ≥ (a0.1.size : Int)) then some (0, false, (a0.1, a0.2.1, a0.2.2.1, ())) else gd (inB a0.2.1 a0.1.size) (bif (((decide ((bt a0.1 a0.2.1.toNat) < 32)) || (decide ((bt a0.1 a0.2.1.toNat) > 126))) || ((bt a0.1 a0.2.1.toNat) == a1)) then some (0, false, (a0.1, (IntKind.i64.wrap (a0.2.1 + 1)), a0.2.2.1, ())) else bif ((bt a0.1 a0.2.1.toNat) != 42) then some ((bt a0.1 a0.2.1.toNat), true, (a0.1, (IntKind.i64.wrap (a0.2.1 + 1)), a0.2.2.1, ())) else bif decide ((IntKind.i64.wrap (a0.2.1 + 1)) ≥ (a0.1.size : Int)) then some (0, false, (a0.1, (IntKind.i64.wrap (a0.2.1 + 1)), a0.2.2.1, ())) else gd (inB (IntKind.i64.wrap (a0.2.1 + 1)) a0.1.size) ((Gstrings_IndexByte.f str6e74732a2722 (bt a0.1 (IntKind.i64.wrap (a0.2.1 + 1)).toNat)).bind fun r1 => bif decide (r1 < 0) then some (0, false, (a0.1, (IntKind.i64.wrap ((IntKind.i64.wrap (a0.2.1 + 1)) + 1)), a0.2.2.1, ())) else gd (inB r1 str0a09202a2722.size) (some ((bt str0a09202a2722 r1.toNat), true, (a0.1, (IntKind.i64.wrap ((IntKind.i64.wrap (a0.2.1 + 1)) + 1)), a0.2.2.1, ())))))
def Glex_scanner__char.pk : List FK := [.bx (.cn (.str) (.cn (.int .i64) (.cn (.mp 9 4) (.ce)))), .int .u8]
def Glex_scanner__char.rk : List FK := [.int .u8, .bool, .bx (.cn (.str) (.cn (.int .i64) (.cn (.mp 9 4) (.ce))))]
def Glex_scanner__char.g : Tp Glex_scanner__char.pk → Option (Tp Glex_scanner__char.rk) := fun x => Glex_scanner__char.f x.1 x.2
def Glex_scanner__char.ρ : List (Entry (Tp Glex_scanner__char.rk)) := [entry _ Tryd.prog 46 Gstrings_IndexByte.pk Gstrings_IndexByte.rk Gstrings_IndexByte.g]
theorem Glex_scanner__char.hρ : ∀ e ∈ Glex_scanner__char.ρ, EntryOk Tryd.prog e :=
  ents_cons (ent (fn := Tryd.f46) Gstrings_IndexByte.spec (by kernel_rfl) (by kernel_rfl) (by kernel_rfl) (by kernel_rfl)) (ents_nil)
def Glex_scanner__char.Λ : Cuts (Tp Glex_scanner__char.rk) := cutsOf []
theorem Glex_scanner__char.spec : SpecIO Tryd.prog 87 Glex_scanner__char.pk [0] Glex_scanner__char.rk Glex_scanner__char.g :=
  spec_io_of_body (fn := Tryd.f87) (c := bodyOf Tryd.f87) (by kernel_rfl) (by kernel_rfl) (by kernel_rfl) (np := 2) (by kernel_rfl) (by kernel_rfl) (by kernel_rfl) (ρ := Glex_scanner__char.ρ) Glex_scanner__char.hρ (Λ := Glex_scanner__char.Λ) (fun A w0 => cuts_nil) (fun x => by kernel_rfl)

/-! ### 64 (*bluebell/lex.scanner).character -/
def Glex_scanner__character.f (a0 : (ByteArray × Int × List (D × D) × Unit)) : Option (D × Int × (ByteArray × Int × List (D × D) × Unit)) :=
  (Glex_scanner__char.f (a0.1, (IntKind.i64.wrap (a0.2.1 + 1)), a0.2.2.1, ()) 39).bind fun r1 => gd ((!(!((!r1.2.1) || (decide (r1.2.2.2.1 ≥ (r1.2.2.1.size : Int)))))) || (inB r1.2.2.2.1 r1.2.2.1.size)) (bif (((!r1.2.1) || (decide (r1.2.2.2.1 ≥ (r1.2.2.1.size : Int)))) || ((bt r1.2.2.1 r1.2.2.2.1.toNat) != 39)) then some (.r [.i 2, .s ByteArray.empty, .i 0, .i a0.2.1], 21, (r1.2.2.1, r1.2.2.2.1, r1.2.2.2.2.1, ())) else some (.r [.i 2, .s ByteArray.empty, .i (IntKind.i64.wrap r1.1), .i a0.2.1], 0, (r1.2.2.1, (IntKind.i64.wrap (r1.2.2.2.1 + 1)), r1.2.2.2.2.1, ())))
def Glex_scanner__character.pk : List FK := [.bx (.cn (.str) (.cn (.int .i64) (.cn (.mp 9 4) (.ce))))]
def Glex_scanner__character.rk : List FK := [.st 33, .int .i64, .bx (.cn (.str) (.cn (.int .i64) (.cn (.mp 9 4) (.ce))))]
def Glex_scanner__character.g : Tp Glex_scanner__character.pk → Option (Tp Glex_scanner__character.rk) := fun x => Glex_scanner__character.f x
def Glex_scanner__character.ρ : List (Entry (Tp Glex_scanner__character.rk)) := [entryIO _ Tryd.prog 87 Glex_scanner__char.pk Glex_scanner__char.rk 0 Glex_scanner__char.g]
theorem Glex_scanner__character.hρ : ∀ e ∈ Glex_scanner__character.ρ, EntryOk Tryd.prog e :=
  ents_cons (entIO (fn := Tryd.f87) Glex_scanner__char.spec (by kernel_rfl) (by kernel_rfl) (by kernel_rfl)) (ents_nil)
def Glex_scanner__character.Λ : Cuts (Tp Glex_scanner__character.rk) := cutsOf []
theorem Glex_scanner__character.spec : SpecIO Tryd.prog 64 Glex_scanner__character.pk [0] Glex_scanner__character.rk Glex_scanner__character.g :=
  spec_io_of_body (fn := Tryd.f64) (c := bodyOf Tryd.f64) (by kernel_rfl) (by kernel_rfl) (by kernel_rfl) (np := 1) (by kernel_rfl) (by kernel_rfl) (by kernel_rfl) (ρ := Glex_scanner__character.ρ) Glex_scanner__character.hρ (Λ := Glex_scanner__character.Λ) (fun A w0 => cuts_nil) (fun x => by kernel_rfl)

/-! ### 65 (*bluebell/lex.scanner).text -/
def Glex_scanner__text.l124 : Nat → ((ByteArray × Int × List (D × D) × Unit)) → D → D → (List D) → (((ByteArray × Int × List (D × D) × Unit) × D × D × List D) → Option (D × Int × (ByteArray × Int × List (D × D) × Unit))) → Option (D × Int × (ByteArray × Int × List (D × D) × Unit))
  | 0, _, _, _, _, _ => none
  | k + 1, v0, v2, v4, v5, κ1 =>
    gd ((!(!(decide (v0.2.1 ≥ (v0.1.size : Int))))) || (inB v0.2.1 v0.1.size)) (bif ((decide (v0.2.1 ≥ (v0.1.size : Int))) || ((bt v0.1 v0.2.1.toNat) != 34)) then (Glex_scanner__char.f (v0.1, v0.2.1, v0.2.2.1, ()) 34).bind fun r1 => bif (!r1.2.1) then some (v4, 21, (r1.2.2.1, r1.2.2.2.1, r1.2.2.2.2.1, ())) else gd (Nat.ble (v5.length + ([.i r1.1] : List D).length) lim) (Glex_scanner__text.l124 k (r1.2.2.1, r1.2.2.2.1, r1.2.2.2.2.1, ()) v2 v4 (v5 ++ ([.i r1.1] : List D)) κ1) else κ1 ((v0.1, v0.2.1, v0.2.2.1, ()), v2, v4, v5))
def Glex_scanner__text.f (a0 : (ByteArray × Int × List (D × D) × Unit)) : Option (D × Int × (ByteArray × Int × List (D × D) × Unit)) :=
  Glex_scanner__text.l124 NN (a0.1, (IntKind.i64.wrap (a0.2.1 + 1)), a0.2.2.1, ()) (.r [.i 0, .s ByteArray.empty, .i 0, .i 0]) (.r [.i 3, .s ByteArray.empty, .i 0, .i a0.2.1]) [] (fun y2 => bif decide ((y2.2.2.2.length : Int) > 100) then some (y2.2.2.1, 2, (y2.1.1, (IntKind.i64.wrap (y2.1.2.1 + 1)), y2.1.2.2.1, ())) else some (.r [.i ((y2.2.2.1.cell 0).int), .s (bstr y2.2.2.2), .i ((y2.2.2.1.cell 2).int), .i ((y2.2.2.1.cell 3).int)], 0, (y2.1.1, (IntKind.i64.wrap (y2.1.2.1 + 1)), y2.1.2.2.1, ())))
def Glex_scanner__text.pk : List FK := [.bx (.cn (.str) (.cn (.int .i64) (.cn (.mp 9 4) (.ce))))]
def Glex_scanner__text.rk : List FK := [.st 33, .int .i64, .bx (.cn (.str) (.cn (.int .i64) (.cn (.mp 9 4) (.ce))))]
def Glex_scanner__text.g : Tp Glex_scanner__text.pk → Option (Tp Glex_scanner__text.rk) := fun x => Glex_scanner__text.f x
def Glex_scanner__text.ρ : List (Entry (Tp Glex_scanner__text.rk)) := [entryIO _ Tryd.prog 87 Glex_scanner__char.pk Glex_scanner__char.rk 0 Glex_scanner__char.g]
theorem Glex_scanner__text.hρ : ∀ e ∈ Glex_scanner__text.ρ, EntryOk Tryd.prog e :=
  ents_cons (entIO (fn := Tryd.f87) Glex_scanner__char.spec (by kernel_rfl) (by kernel_rfl) (by kernel_rfl)) (ents_nil)
def Glex_scanner__text.fr124 : Fr := [(0, .bx (.cn (.str) (.cn (.int .i64) (.cn (.mp 9 4) (.ce))))), (2, .bx (.st 33)), (4, .bx (.st 33)), (5, .own 5)]
def Glex_scanner__text.ou124 : Outs := [(1, [(0, .bx (.cn (.str) (.cn (.int .i64) (.cn (.mp 9 4) (.ce))))), (2, .bx (.st 33)), (4, .bx (.st 33)), (5, .own 5)])]
def Glex_scanner__text.T124 (k : Nat) (x : Glex_scanner__text.fr124.T) (κ : Kp (Tp Glex_scanner__text.rk) Glex_scanner__text.ou124) : Option (Tp Glex_scanner__text.rk) := Glex_scanner__text.l124 k x.1 x.2.1 x.2.2.1 x.2.2.2 κ.1
def Glex_scanner__text.Λ0 : Cuts (Tp Glex_scanner__text.rk) := cutsOf []
def Glex_scanner__text.Λ : Cuts (Tp Glex_scanner__text.rk) := cutsOf [(124, cut Tryd.prog Glex_scanner__text.fr124 Glex_scanner__text.ou124 (Glex_scanner__text.T124 NN))]
theorem Glex_scanner__text.c124 (A : Ks) (w0 : World) : CutOk Tryd.prog ⟨Tryd.f65.ntmps, 1, A⟩ w0 (kRetIO Tryd.prog [0] Tryd.f65.results.toList Glex_scanner__text.rk) (bodyOf Tryd.f65) 124 (cut Tryd.prog Glex_scanner__text.fr124 Glex_scanner__text.ou124 (Glex_scanner__text.T124 NN)) :=
  loop_ok Glex_scanner__text.hρ (Λ := Glex_scanner__text.Λ0) (cuts_nil) (by kernel_rfl) (D := 64) (b := loopOf Tryd.f65 124) (by kernel_rfl) (by kernel_rfl) NN (fun x κ => by kernel_rfl) (fun k x κ => by kernel_rfl)
theorem Glex_scanner__text.spec : SpecIO Tryd.prog 65 Glex_scanner__text.pk [0] Glex_scanner__text.rk Glex_scanner__text.g :=
  spec_io_of_body (fn := Tryd.f65) (c := bodyOf Tryd.f65) (by kernel_rfl) (by kernel_rfl) (by kernel_rfl) (np := 1) (by kernel_rfl) (by kernel_rfl) (by kernel_rfl) (ρ := Glex_scanner__text.ρ) Glex_scanner__text.hρ (Λ := Glex_scanner__text.Λ) (fun A w0 => cuts_cons (Glex_scanner__text.c124 A w0) (cuts_nil)) (fun x => by kernel_rfl)

/-! ### 42 (*bluebell/lex.scanner).token -/
def Glex_scanner__token.f (a0 : (ByteArray × Int × List (D × D) × Unit)) : Option (D × Int × (ByteArray × Int × List (D × D) × Unit)) :=
  gd (inB a0.2.1 a0.1.size) ((Glex_small.f (bt a0.1 a0.2.1.toNat)).bind fun r1 => bif r1 then (Glex_scanner__name.f (a0.1, a0.2.1, a0.2.2.1, ())).bind fun r2 => some (r2.1, r2.2.1, (r2.2.2.1, r2.2.2.2.1, r2.2.2.2.2.1, ())) else (Glex_digit.f (bt a0.1 a0.2.1.toNat)).bind fun r3 => bif (r3 || ((bt a0.1 a0.2.1.toNat) == 35)) then (Glex_scanner__number.f (a0.1, a0.2.1, a0.2.2.1, ())).bind fun r4 => some (r4.1, r4.2.1, (r4.2.2.1, r4.2.2.2.1, r4.2.2.2.2.1, ())) else bif ((bt a0.1 a0.2.1.toNat) == 39) then (Glex_scanner__character.f (a0.1, a0.2.1, a0.2.2.1, ())).bind fun r5 => some (r5.1, r5.2.1, (r5.2.2.1, r5.2.2.2.1, r5.2.2.2.2.1, ())) else bif ((bt a0.1 a0.2.1.toNat) == 34) then (Glex_scanner__text.f (a0.1, a0.2.1, a0.2.2.1, ())).bind fun r6 => some (r6.1, r6.2.1, (r6.2.2.1, r6.2.2.2.1, r6.2.2.2.2.1, ())) else (Glex_scanner__sign.f (a0.1, a0.2.1, a0.2.2.1, ())).bind fun r7 => some (r7.1, r7.2.1, (r7.2.2.1, r7.2.2.2.1, r7.2.2.2.2.1, ())))
def Glex_scanner__token.pk : List FK := [.bx (.cn (.str) (.cn (.int .i64) (.cn (.mp 9 4) (.ce))))]
def Glex_scanner__token.rk : List FK := [.st 33, .int .i64, .bx (.cn (.str) (.cn (.int .i64) (.cn (.mp 9 4) (.ce))))]
def Glex_scanner__token.g : Tp Glex_scanner__token.pk → Option (Tp Glex_scanner__token.rk) := fun x => Glex_scanner__token.f x
def Glex_scanner__token.ρ : List (Entry (Tp Glex_scanner__token.rk)) := [entry _ Tryd.prog 35 Glex_small.pk Glex_small.rk Glex_small.g, entryIO _ Tryd.prog 62 Glex_scanner__name.pk Glex_scanner__name.rk 0 Glex_scanner__name.g, entry _ Tryd.prog 58 Glex_digit.pk Glex_digit.rk Glex_digit.g, entryIO _ Tryd.prog 63 Glex_scanner__number.pk Glex_scanner__number.rk 0 Glex_scanner__number.g, entryIO _ Tryd.prog 64 Glex_scanner__character.pk Glex_scanner__character.rk 0 Glex_scanner__character.g, entryIO _ Tryd.prog 65 Glex_scanner__text.pk Glex_scanner__text.rk 0 Glex_scanner__text.g, entryIO _ Tryd.prog 61 Glex_scanner__sign.pk Glex_scanner__sign.rk 0 Glex_scanner__sign.g]
theorem Glex_scanner__token.hρ : ∀ e ∈ Glex_scanner__token.ρ, EntryOk Tryd.prog e :=
  ents_cons (ent (fn := Tryd.f35) Glex_small.spec (by kernel_rfl) (by kernel_rfl) (by kernel_rfl) (by kernel_rfl)) (ents_cons (entIO (fn := Tryd.f62) Glex_scanner__name.spec (by kernel_rfl) (by kernel_rfl) (by kernel_rfl)) (ents_cons (ent (fn := Tryd.f58) Glex_digit.spec (by kernel_rfl) (by kernel_rfl) (by kernel_rfl) (by kernel_rfl)) (ents_cons (entIO (fn := Tryd.f63) Glex_scanner__number.spec (by kernel_rfl) (by kernel_rfl) (by kernel_rfl)) (ents_cons (entIO (fn := Tryd.f64) Glex_scanner__character.spec (by kernel_rfl) (by kernel_rfl) (by kernel_rfl)) (ents_cons (entIO (fn := Tryd.f65) Glex_scanner__text.spec (by kernel_rfl) (by kernel_rfl) (by kernel_rfl)) (ents_cons (entIO (fn := Tryd.f61) Glex_scanner__sign.spec (by kernel_rfl) (by kernel_rfl) (by kernel_rfl)) (ents_nil)))))))
def Glex_scanner__token.Λ : Cuts (Tp Glex_scanner__token.rk) := cutsOf []
theorem Glex_scanner__token.spec : SpecIO Tryd.prog 42 Glex_scanner__token.pk [0] Glex_scanner__token.rk Glex_scanner__token.g :=
  spec_io_of_body (fn := Tryd.f42) (c := bodyOf Tryd.f42) (by kernel_rfl) (by kernel_rfl) (by kernel_rfl) (np := 1) (by kernel_rfl) (by kernel_rfl) (by kernel_rfl) (ρ := Glex_scanner__token.ρ) Glex_scanner__token.hρ (Λ := Glex_scanner__token.Λ) (fun A w0 => cuts_nil) (fun x => by kernel_rfl)

/-! ### 21 bluebell/lex.Scan -/
def Glex_Scan.p7967 (v0 : ByteArray) (v5 : (ByteArray × Int × List (D × D) × Unit)) (v6 : List D) (v7 : D) (v8 : Int) (κ0 : (ByteArray × (ByteArray × Int × List (D × D) × Unit) × List D) → Option (List D × Int × Int)) : Option (List D × Int × Int) :=
  bif (v8 != 0) then some ([], v8, (v7.cell 3).int) else gd (Nat.ble (v6.length + ([v7] : List D).length) lim) (bif (((v7.cell 0).int) == 0) then some ((v6 ++ ([v7] : List D)), 0, 0) else κ0 (v0, (v5.1, v5.2.1, v5.2.2.1, ()), (v6 ++ ([v7] : List D))))
def Glex_Scan.p3983 (v0 : ByteArray) (v5 : (ByteArray × Int × List (D × D) × Unit)) (v6 : List D) (v7 : D) (v8 : Int) (κ0 : (ByteArray × (ByteArray × Int × List (D × D) × Unit) × List D) → Option (List D × Int × Int)) : Option (List D × Int × Int) :=
  bif ((v8 == 0) && ((v6.length : Int) == 20000)) then Glex_Scan.p7967 v0 (v5.1, v5.2.1, v5.2.2.1, ()) v6 v7 2 (fun y4 => κ0 (y4.1, (y4.2.1.1, y4.2.1.2.1, y4.2.1.2.2.1, ()), y4.2.2)) else Glex_Scan.p7967 v0 (v5.1, v5.2.1, v5.2.2.1, ()) v6 v7 v8 (fun y5 => κ0 (y5.1, (y5.2.1.1, y5.2.1.2.1, y5.2.1.2.2.1, ()), y5.2.2))
def Glex_Scan.l62 : Nat → ByteArray → ((ByteArray × Int × List (D × D) × Unit)) → (List D) → Option (List D × Int × Int)
  | 0, _, _, _ => none
  | k + 1, v0, v5, v6 =>
    (Glex_scanner__skip.f (v5.1, v5.2.1, v5.2.2.1, ())).bind fun r2 => bif decide (r2.2.1 < (v0.size : Int)) then (Glex_scanner__token.f (r2.1, r2.2.1, r2.2.2.1, ())).bind fun r3 => Glex_Scan.p3983 v0 (r3.2.2.1, r3.2.2.2.1, r3.2.2.2.2.1, ()) v6 r3.1 r3.2.1 (fun y6 => Glex_Scan.l62 k y6.1 (y6.2.1.1, y6.2.1.2.1, y6.2.1.2.2.1, ()) y6.2.2) else Glex_Scan.p3983 v0 (r2.1, r2.2.1, r2.2.2.1, ()) v6 (.r [.i 0, .s ByteArray.empty, .i 0, .i r2.2.1]) 0 (fun y7 => Glex_Scan.l62 k y7.1 (y7.2.1.1, y7.2.1.2.1, y7.2.1.2.2.1, ()) y7.2.2)
def Glex_Scan.f (a0 : ByteArray) : Option (List D × Int × Int) :=
  bif decide ((a0.size : Int) > 40000) then some ([], 2, 0) else (Glex_keys.f).bind fun r1 => Glex_Scan.l62 NN a0 (a0, 0, r1, ()) []
def Glex_Scan.pk : List FK := [.str]
def Glex_Scan.rk : List FK := [.own 33, .int .i64, .int .i64]
def Glex_Scan.g : Tp Glex_Scan.pk → Option (Tp Glex_Scan.rk) := fun x => Glex_Scan.f x
def Glex_Scan.ρ : List (Entry (Tp Glex_Scan.rk)) := [entry _ Tryd.prog 37 Glex_keys.pk Glex_keys.rk Glex_keys.g, entryIO _ Tryd.prog 41 Glex_scanner__skip.pk Glex_scanner__skip.rk 0 Glex_scanner__skip.g, entryIO _ Tryd.prog 42 Glex_scanner__token.pk Glex_scanner__token.rk 0 Glex_scanner__token.g]
theorem Glex_Scan.hρ : ∀ e ∈ Glex_Scan.ρ, EntryOk Tryd.prog e :=
  ents_cons (ent (fn := Tryd.f37) Glex_keys.spec (by kernel_rfl) (by kernel_rfl) (by kernel_rfl) (by kernel_rfl)) (ents_cons (entIO (fn := Tryd.f41) Glex_scanner__skip.spec (by kernel_rfl) (by kernel_rfl) (by kernel_rfl)) (ents_cons (entIO (fn := Tryd.f42) Glex_scanner__token.spec (by kernel_rfl) (by kernel_rfl) (by kernel_rfl)) (ents_nil)))
def Glex_Scan.fr7967 : Fr := [(0, .str), (5, .bx (.cn (.str) (.cn (.int .i64) (.cn (.mp 9 4) (.ce))))), (6, .own 33), (7, .bx (.st 33)), (8, .int .i64)]
def Glex_Scan.ou7967 : Outs := [(0, [(0, .str), (5, .bx (.cn (.str) (.cn (.int .i64) (.cn (.mp 9 4) (.ce))))), (6, .own 33)])]
def Glex_Scan.T7967 (x : Glex_Scan.fr7967.T) (κ : Kp (Tp Glex_Scan.rk) Glex_Scan.ou7967) : Option (Tp Glex_Scan.rk) := Glex_Scan.p7967 x.1 x.2.1 x.2.2.1 x.2.2.2.1 x.2.2.2.2 κ.1
def Glex_Scan.fr3983 : Fr := [(0, .str), (5, .bx (.cn (.str) (.cn (.int .i64) (.cn (.mp 9 4) (.ce))))), (6, .own 33), (7, .bx (.st 33)), (8, .int .i64)]
def Glex_Scan.ou3983 : Outs := [(0, [(0, .str), (5, .bx (.cn (.str) (.cn (.int .i64) (.cn (.mp 9 4) (.ce))))), (6, .own 33)])]
def Glex_Scan.T3983 (x : Glex_Scan.fr3983.T) (κ : Kp (Tp Glex_Scan.rk) Glex_Scan.ou3983) : Option (Tp Glex_Scan.rk) := Glex_Scan.p3983 x.1 x.2.1 x.2.2.1 x.2.2.2.1 x.2.2.2.2 κ.1
def Glex_Scan.fr62 : Fr := [(0, .str), (5, .bx (.cn (.str) (.cn (.int .i64) (.cn (.mp 9 4) (.ce))))), (6, .own 33)]
def Glex_Scan.ou62 : Outs := []
def Glex_Scan.T62 (k : Nat) (x : Glex_Scan.fr62.T) (κ : Kp (Tp Glex_Scan.rk) Glex_Scan.ou62) : Option (Tp Glex_Scan.rk) := Glex_Scan.l62 k x.1 x.2.1 x.2.2
def Glex_Scan.Λ0 : Cuts (Tp Glex_Scan.rk) := cutsOf []
def Glex_Scan.Λ1 : Cuts (Tp Glex_Scan.rk) := cutsOf [(7967, cut Tryd.prog Glex_Scan.fr7967 Glex_Scan.ou7967 (Glex_Scan.T7967))]
def Glex_Scan.Λ2 : Cuts (Tp Glex_Scan.rk) := cutsOf [(3983, cut Tryd.prog Glex_Scan.fr3983 Glex_Scan.ou3983 (Glex_Scan.T3983)), (7967, cut Tryd.prog Glex_Scan.fr7967 Glex_Scan.ou7967 (Glex_Scan.T7967))]
def Glex_Scan.Λ : Cuts (Tp Glex_Scan.rk) := cutsOf [(62, cut Tryd.prog Glex_Scan.fr62 Glex_Scan.ou62 (Glex_Scan.T62 NN)), (3983, cut Tryd.prog Glex_Scan.fr3983 Glex_Scan.ou3983 (Glex_Scan.T3983)), (7967, cut Tryd.prog Glex_Scan.fr7967 Glex_Scan.ou7967 (Glex_Scan.T7967))]
theorem Glex_Scan.c7967 (A : Ks) (w0 : World) : CutOk Tryd.prog ⟨Tryd.f21.ntmps, 0, A⟩ w0 (kRet Tryd.prog Tryd.f21.results.toList Glex_Scan.rk) (bodyOf Tryd.f21) 7967 (cut Tryd.prog Glex_Scan.fr7967 Glex_Scan.ou7967 (Glex_Scan.T7967)) :=
  cut_ok Glex_Scan.hρ (Λ := Glex_Scan.Λ0) (cuts_nil) (by kernel_rfl) (by kernel_rfl) (D := 64) (c := nodeOf Tryd.f21 7967) (by kernel_rfl) (by kernel_rfl) (fun x κ => by kernel_rfl)
theorem Glex_Scan.c3983 (A : Ks) (w0 : World) : CutOk Tryd.prog ⟨Tryd.f21.ntmps, 0, A⟩ w0 (kRet Tryd.prog Tryd.f21.results.toList Glex_Scan.rk) (bodyOf Tryd.f21) 3983 (cut Tryd.prog Glex_Scan.fr3983 Glex_Scan.ou3983 (Glex_Scan.T3983)) :=
  cut_ok Glex_Scan.hρ (Λ := Glex_Scan.Λ1) (cuts_cons (Glex_Scan.c7967 A w0) (cuts_nil)) (by kernel_rfl) (by kernel_rfl) (D := 64) (c := nodeOf Tryd.f21 3983) (by kernel_rfl) (by kernel_rfl) (fun x κ => by kernel_rfl)
theorem Glex_Scan.c62 (A : Ks) (w0 : World) : CutOk Tryd.prog ⟨Tryd.f21.ntmps, 0, A⟩ w0 (kRet Tryd.prog Tryd.f21.results.toList Glex_Scan.rk) (bodyOf Tryd.f21) 62 (cut Tryd.prog Glex_Scan.fr62 Glex_Scan.ou62 (Glex_Scan.T62 NN)) :=
  loop_ok Glex_Scan.hρ (Λ := Glex_Scan.Λ2) (cuts_cons (Glex_Scan.c3983 A w0) (cuts_cons (Glex_Scan.c7967 A w0) (cuts_nil))) (by kernel_rfl) (D := 64) (b := loopOf Tryd.f21 62) (by kernel_rfl) (by kernel_rfl) NN (fun x κ => by kernel_rfl) (fun k x κ => by kernel_rfl)
theorem Glex_Scan.spec : Spec Tryd.prog 21 Glex_Scan.pk Glex_Scan.rk Glex_Scan.g :=
  spec_of_body (fn := Tryd.f21) (c := bodyOf Tryd.f21) (by kernel_rfl) (by kernel_rfl) (by kernel_rfl) (by kernel_rfl) (ρ := Glex_Scan.ρ) Glex_Scan.hρ (Λ := Glex_Scan.Λ) (fun A w0 => cuts_cons (Glex_Scan.c62 A w0) (cuts_cons (Glex_Scan.c3983 A w0) (cuts_cons (Glex_Scan.c7967 A w0) (cuts_nil)))) (fun x => by kernel_rfl)

/-! ### 43 bluebell/bluebellref02.behind -/
def Gr02_behind.l1582 : Nat → ByteArray → Int → ((ByteArray × Int) → Option Int) → Option Int
  | 0, _, _, _ => none
  | k + 1, v0, v1, κ3 =>
    gd ((!(decide (v1 < (v0.size : Int)))) || (inB v1 v0.size)) (bif ((decide (v1 < (v0.size : Int))) && ((bt v0 v1.toNat) != 10)) then Gr02_behind.l1582 k v0 (IntKind.i64.wrap (v1 + 1)) κ3 else κ3 (v0, v1))
def Gr02_behind.l12 : Nat → ByteArray → Int → (Int → Option Int) → Option Int
  | 0, _, _, _ => none
  | k + 1, v0, v1, κ1 =>
    bif decide (v1 < (v0.size : Int)) then gd (inB v1 v0.size) (bif ((((bt v0 v1.toNat) == 32) || ((bt v0 v1.toNat) == 9)) || ((bt v0 v1.toNat) == 10)) then Gr02_behind.l12 k v0 (IntKind.i64.wrap (v1 + 1)) κ1 else gd ((!(!(((bt v0 v1.toNat) != 47) || (decide ((IntKind.i64.wrap (v1 + 1)) ≥ (v0.size : Int)))))) || (inB (IntKind.i64.wrap (v1 + 1)) v0.size)) (bif ((((bt v0 v1.toNat) != 47) || (decide ((IntKind.i64.wrap (v1 + 1)) ≥ (v0.size : Int)))) || ((bt v0 (IntKind.i64.wrap (v1 + 1)).toNat) != 47)) then some v1 else Gr02_behind.l1582 NN v0 v1 (fun y1 => Gr02_behind.l12 k y1.1 y1.2 κ1))) else κ1 v1
def Gr02_behind.f (a0 : ByteArray) (a1 : Int) : Option Int :=
  Gr02_behind.l12 NN a0 a1 (fun y2 => some y2)
def Gr02_behind.pk : List FK := [.str, .int .i64]
def Gr02_behind.rk : List FK := [.int .i64]
def Gr02_behind.g : Tp Gr02_behind.pk → Option (Tp Gr02_behind.rk) := fun x => Gr02_behind.f x.1 x.2
def Gr02_behind.ρ : List (Entry (Tp Gr02_behind.rk)) := []
theorem Gr02_behind.hρ : ∀ e ∈ Gr02_behind.ρ, EntryOk Tryd.prog e :=
  ents_nil
def Gr02_behind.fr1582 : Fr := [(0, .str), (1, .int .i64)]
def Gr02_behind.ou1582 : Outs := [(3, [(0, .str), (1, .int .i64)])]
def Gr02_behind.T1582 (k : Nat) (x : Gr02_behind.fr1582.T) (κ : Kp (Tp Gr02_behind.rk) Gr02_behind.ou1582) : Option (Tp Gr02_behind.rk) := Gr02_behind.l1582 k x.1 x.2 κ.1
def Gr02_behind.fr12 : Fr := [(0, .str), (1, .int .i64)]
def Gr02_behind.ou12 : Outs := [(1, [(1, .int .i64)])]
def Gr02_behind.T12 (k : Nat) (x : Gr02_behind.fr12.T) (κ : Kp (Tp Gr02_behind.rk) Gr02_behind.ou12) : Option (Tp Gr02_behind.rk) := Gr02_behind.l12 k x.1 x.2 κ.1
def Gr02_behind.Λ0 : Cuts (Tp Gr02_behind.rk) := cutsOf []
def Gr02_behind.Λ1 : Cuts (Tp Gr02_behind.rk) := cutsOf [(1582, cut Tryd.prog Gr02_behind.fr1582 Gr02_behind.ou1582 (Gr02_behind.T1582 NN))]
def Gr02_behind.Λ : Cuts (Tp Gr02_behind.rk) := cutsOf [(12, cut Tryd.prog Gr02_behind.fr12 Gr02_behind.ou12 (Gr02_behind.T12 NN)), (1582, cut Tryd.prog Gr02_behind.fr1582 Gr02_behind.ou1582 (Gr02_behind.T1582 NN))]
theorem Gr02_behind.c1582 (A : Ks) (w0 : World) : CutOk Tryd.prog ⟨Tryd.f43.ntmps, 0, A⟩ w0 (kRet Tryd.prog Tryd.f43.results.toList Gr02_behind.rk) (bodyOf Tryd.f43) 1582 (cut Tryd.prog Gr02_behind.fr1582 Gr02_behind.ou1582 (Gr02_behind.T1582 NN)) :=
  loop_ok Gr02_behind.hρ (Λ := Gr02_behind.Λ0) (cuts_nil) (by kernel_rfl) (D := 64) (b := loopOf Tryd.f43 1582) (by kernel_rfl) (by kernel_rfl) NN (fun x κ => by kernel_rfl) (fun k x κ => by kernel_rfl)
theorem Gr02_behind.c12 (A : Ks) (w0 : World) : CutOk Tryd.prog ⟨Tryd.f43.ntmps, 0, A⟩ w0 (kRet Tryd.prog Tryd.f43.results.toList Gr02_behind.rk) (bodyOf Tryd.f43) 12 (cut Tryd.prog Gr02_behind.fr12 Gr02_behind.ou12 (Gr02_behind.T12 NN)) :=
  loop_ok Gr02_behind.hρ (Λ := Gr02_behind.Λ1) (cuts_cons (Gr02_behind.c1582 A w0) (cuts_nil)) (by kernel_rfl) (D := 64) (b := loopOf Tryd.f43 12) (by kernel_rfl) (by kernel_rfl) NN (fun x κ => by kernel_rfl) (fun k x κ => by kernel_rfl)
theorem Gr02_behind.spec : Spec Tryd.prog 43 Gr02_behind.pk Gr02_behind.rk Gr02_behind.g :=
  spec_of_body (fn := Tryd.f43) (c := bodyOf Tryd.f43) (by kernel_rfl) (by kernel_rfl) (by kernel_rfl) (by kernel_rfl) (ρ := Gr02_behind.ρ) Gr02_behind.hρ (Λ := Gr02_behind.Λ) (fun A w0 => cuts_cons (Gr02_behind.c12 A w0) (cuts_cons (Gr02_behind.c1582 A w0) (cuts_nil))) (fun x => by kernel_rfl)

/-! ### 38 bluebell/bluebellref02.isSmall -/
def Gr02_isSmall.f (a0 : Int) : Option Bool :=
  some ((decide (a0 ≥ 97)) && (decide (a0 ≤ 122)))
def Gr02_isSmall.pk : List FK := [.int .u8]
def Gr02_isSmall.rk : List FK := [.bool]
def Gr02_isSmall.g : Tp Gr02_isSmall.pk → Option (Tp Gr02_isSmall.rk) := fun x => Gr02_isSmall.f x
def Gr02_isSmall.ρ : List (Entry (Tp Gr02_isSmall.rk)) := []
theorem Gr02_isSmall.hρ : ∀ e ∈ Gr02_isSmall.ρ, EntryOk Tryd.prog e :=
  ents_nil
def Gr02_isSmall.Λ : Cuts (Tp Gr02_isSmall.rk) := cutsOf []
theorem Gr02_isSmall.spec : Spec Tryd.prog 38 Gr02_isSmall.pk Gr02_isSmall.rk Gr02_isSmall.g :=
  spec_of_body (fn := Tryd.f38) (c := bodyOf Tryd.f38) (by kernel_rfl) (by kernel_rfl) (by kernel_rfl) (by kernel_rfl) (ρ := Gr02_isSmall.ρ) Gr02_isSmall.hρ (Λ := Gr02_isSmall.Λ) (fun A w0 => cuts_nil) (fun x => by kernel_rfl)

/-! ### 59 bluebell/bluebellref02.isDigit -/
def Gr02_isDigit.f (a0 : Int) : Option Bool :=
  some ((decide (a0 ≥ 48)) && (decide (a0 ≤ 57)))
def Gr02_isDigit.pk : List FK := [.int .u8]
def Gr02_isDigit.rk : List FK := [.bool]
def Gr02_isDigit.g : Tp Gr02_isDigit.pk → Option (Tp Gr02_isDigit.rk) := fun x => Gr02_isDigit.f x
def Gr02_isDigit.ρ : List (Entry (Tp Gr02_isDigit.rk)) := []
theorem Gr02_isDigit.hρ : ∀ e ∈ Gr02_isDigit.ρ, EntryOk Tryd.prog e :=
  ents_nil
def Gr02_isDigit.Λ : Cuts (Tp Gr02_isDigit.rk) := cutsOf []
theorem Gr02_isDigit.spec : Spec Tryd.prog 59 Gr02_isDigit.pk Gr02_isDigit.rk Gr02_isDigit.g :=
  spec_of_body (fn := Tryd.f59) (c := bodyOf Tryd.f59) (by kernel_rfl) (by kernel_rfl) (by kernel_rfl) (by kernel_rfl) (ρ := Gr02_isDigit.ρ) Gr02_isDigit.hρ (Λ := Gr02_isDigit.Λ) (fun A w0 => cuts_nil) (fun x => by kernel_rfl)

/-! ### 40 bluebell/bluebellref02.isPart -/
def Gr02_isPart.f (a0 : Int) : Option Bool :=
  (Gr02_isSmall.f a0).bind fun r1 => (bif (!r1) then Gr02_isDigit.f a0 else some false).bind fun r2 => some ((r1 || r2) || (a0 == 95))
def Gr02_isPart.pk : List FK := [.int .u8]
def Gr02_isPart.rk : List FK := [.bool]
def Gr02_isPart.g : Tp Gr02_isPart.pk → Option (Tp Gr02_isPart.rk) := fun x => Gr02_isPart.f x
def Gr02_isPart.ρ : List (Entry (Tp Gr02_isPart.rk)) := [entry _ Tryd.prog 38 Gr02_isSmall.pk Gr02_isSmall.rk Gr02_isSmall.g, entry _ Tryd.prog 59 Gr02_isDigit.pk Gr02_isDigit.rk Gr02_isDigit.g]
theorem Gr02_isPart.hρ : ∀ e ∈ Gr02_isPart.ρ, EntryOk Tryd.prog e :=
  ents_cons (ent (fn := Tryd.f38) Gr02_isSmall.spec (by kernel_rfl) (by kernel_rfl) (by kernel_rfl) (by kernel_rfl)) (ents_cons (ent (fn := Tryd.f59) Gr02_isDigit.spec (by kernel_rfl) (by kernel_rfl) (by kernel_rfl) (by kernel_rfl)) (ents_nil))
def Gr02_isPart.Λ : Cuts (Tp Gr02_isPart.rk) := cutsOf []
theorem Gr02_isPart.spec : Spec Tryd.prog 40 Gr02_isPart.pk Gr02_isPart.rk Gr02_isPart.g :=
  spec_of_body (fn := Tryd.f40) (c := bodyOf Tryd.f40) (by kernel_rfl) (by kernel_rfl) (by kernel_rfl) (by kernel_rfl) (ρ := Gr02_isPart.ρ) Gr02_isPart.hρ (Λ := Gr02_isPart.Λ) (fun A w0 => cuts_nil) (fun x => by kernel_rfl)

/-! ### 16 bluebell/bluebellref02.Keys -/
def Gr02_Keys.f : Option (List D) :=
  some ([.s str616e64, .s str6265, .s str627265616b, .s str6279, .s str63617365, .s str64656661756c74, .s str646f, .s str656c7365, .s str656e6463617365, .s str657176, .s str66616c7365, .s str66696e697368, .s str666f72, .s str676c6f62616c, .s str676f746f, .s str6966, .s str696e746f, .s str6c6574, .s str6c6f6f70, .s str6d616e6966657374, .s str6f66, .s str6f72, .s str72656d, .s str726570656174, .s str726570656174756e74696c, .s str7265706561747768696c65, .s str726573756c746973, .s str72657475726e, .s str73656374696f6e, .s str736c6374, .s str737461746963, .s str7377697463686f6e, .s str7461626c65, .s str74657374, .s str7468656e, .s str746f, .s str74727565, .s str756e6c657373, .s str756e74696c, .s str76616c6f66, .s str766563, .s str7768696c65, .s str786f72] : List D)
def Gr02_Keys.pk : List FK := []
def Gr02_Keys.rk : List FK := [.sl 9]
def Gr02_Keys.g : Tp Gr02_Keys.pk → Option (Tp Gr02_Keys.rk) := fun _ => Gr02_Keys.f
def Gr02_Keys.ρ : List (Entry (Tp Gr02_Keys.rk)) := []
theorem Gr02_Keys.hρ : ∀ e ∈ Gr02_Keys.ρ, EntryOk Tryd.prog e :=
  ents_nil
def Gr02_Keys.Λ : Cuts (Tp Gr02_Keys.rk) := cutsOf []
theorem Gr02_Keys.spec : Spec Tryd.prog 16 Gr02_Keys.pk Gr02_Keys.rk Gr02_Keys.g :=
  spec_of_body (fn := Tryd.f16) (c := bodyOf Tryd.f16) (by kernel_rfl) (by kernel_rfl) (by kernel_rfl) (by kernel_rfl) (ρ := Gr02_Keys.ρ) Gr02_Keys.hρ (Λ := Gr02_Keys.Λ) (fun A w0 => cuts_nil) (fun x => by kernel_rfl)

/-! ### 39 bluebell/bluebellref02.has -/
def Gr02_has.l26 : Nat → (List D) → ByteArray → Int → (Unit → Option Bool) → Option Bool
  | 0, _, _, _, _ => none
  | k + 1, v0, v1, v5, κ1 =>
    bif decide (v5 < (v0.length : Int)) then gd (inB v5 v0.length) (bif (((rd v0 v5.toNat).str).toList == v1.toList) then some true else Gr02_has.l26 k v0 v1 (IntKind.i64.wrap (v5 + 1)) κ1) else κ1 ()
def Gr02_has.f (a0 : List D) (a1 : ByteArray) : Option Bool :=
  Gr02_has.l26 NN a0 a1 0 (fun y1 => some false)
def Gr02_has.pk : List FK := [.sl 9, .str]
def Gr02_has.rk : List FK := [.bool]
def Gr02_has.g : Tp Gr02_has.pk → Option (Tp Gr02_has.rk) := fun x => Gr02_has.f x.1 x.2
def Gr02_has.ρ : List (Entry (Tp Gr02_has.rk)) := []
theorem Gr02_has.hρ : ∀ e ∈ Gr02_has.ρ, EntryOk Tryd.prog e :=
  ents_nil
def Gr02_has.fr26 : Fr := [(0, .sl 9), (1, .str), (5, .int .i64)]
def Gr02_has.ou26 : Outs := [(1, [])]
def Gr02_has.T26 (k : Nat) (x : Gr02_has.fr26.T) (κ : Kp (Tp Gr02_has.rk) Gr02_has.ou26) : Option (Tp Gr02_has.rk) := Gr02_has.l26 k x.1 x.2.1 x.2.2 κ.1
def Gr02_has.Λ0 : Cuts (Tp Gr02_has.rk) := cutsOf []
def Gr02_has.Λ : Cuts (Tp Gr02_has.rk) := cutsOf [(26, cut Tryd.prog Gr02_has.fr26 Gr02_has.ou26 (Gr02_has.T26 NN))]
theorem Gr02_has.c26 (A : Ks) (w0 : World) : CutOk Tryd.prog ⟨Tryd.f39.ntmps, 0, A⟩ w0 (kRet Tryd.prog Tryd.f39.results.toList Gr02_has.rk) (bodyOf Tryd.f39) 26 (cut Tryd.prog Gr02_has.fr26 Gr02_has.ou26 (Gr02_has.T26 NN)) :=
  loop_ok Gr02_has.hρ (Λ := Gr02_has.Λ0) (cuts_nil) (by kernel_rfl) (D := 64) (b := loopOf Tryd.f39 26) (by kernel_rfl) (by kernel_rfl) NN (fun x κ => by kernel_rfl) (fun k x κ => by kernel_rfl)
theorem Gr02_has.spec : Spec Tryd.prog 39 Gr02_has.pk Gr02_has.rk Gr02_has.g :=
  spec_of_body (fn := Tryd.f39) (c := bodyOf Tryd.f39) (by kernel_rfl) (by kernel_rfl) (by kernel_rfl) (by kernel_rfl) (ρ := Gr02_has.ρ) Gr02_has.hρ (Λ := Gr02_has.Λ) (fun A w0 => cuts_cons (Gr02_has.c26 A w0) (cuts_nil)) (fun x => by kernel_rfl)

/-! ### 66 bluebell/bluebellref02.word -/
def Gr02_word.l28 : Nat → ByteArray → Int → D → Int → ((ByteArray × Int × D × Int) → Option (D × Int × Int)) → Option (D × Int × Int)
  | 0, _, _, _, _, _ => none
  | k + 1, v0, v1, v4, v7, κ1 =>
    gd ((!(decide (v7 < (v0.size : Int)))) || (inB v7 v0.size)) ((bif (decide (v7 < (v0.size : Int))) then Gr02_isPart.f (bt v0 v7.toNat) else some false).bind fun r1 => bif ((decide (v7 < (v0.size : Int))) && r1) then Gr02_word.l28 k v0 v1 v4 (IntKind.i64.wrap (v7 + 1)) κ1 else κ1 (v0, v1, v4, v7))
def Gr02_word.f (a0 : ByteArray) (a1 : Int) : Option (D × Int × Int) :=
  Gr02_word.l28 NN a0 a1 (.r [.i 0, .s ByteArray.empty, .i 0, .i 0]) a1 (fun y2 => gd (decide (0 ≤ y2.2.1) && (decide (y2.2.1 ≤ y2.2.2.2) && decide (y2.2.2.2 ≤ (y2.1.size : Int)))) (bif decide (((y2.1.extract y2.2.1.toNat y2.2.2.2.toNat).size : Int) > 24) then some (.r [.i 0, .s ByteArray.empty, .i 0, .i 0], y2.2.1, 2) else (Gr02_Keys.f).bind fun r3 => (Gr02_has.f r3 (y2.1.extract y2.2.1.toNat y2.2.2.2.toNat)).bind fun r4 => bif r4 then some (.r [.i 4, .s (y2.1.extract y2.2.1.toNat y2.2.2.2.toNat), .i 0, .i y2.2.1], y2.2.2.2, 0) else some (.r [.i 1, .s (y2.1.extract y2.2.1.toNat y2.2.2.2.toNat), .i 0, .i y2.2.1], y2.2.2.2, 0)))
def Gr02_word.pk : List FK := [.str, .int .i64]
def Gr02_word.rk : List FK := [.st 33, .int .i64, .int .i64]
def Gr02_word.g : Tp Gr02_word.pk → Option (Tp Gr02_word.rk) := fun x => Gr02_word.f x.1 x.2
def Gr02_word.ρ : List (Entry (Tp Gr02_word.rk)) := [entry _ Tryd.prog 40 Gr02_isPart.pk Gr02_isPart.rk Gr02_isPart.g, entry _ Tryd.prog 16 Gr02_Keys.pk Gr02_Keys.rk Gr02_Keys.g, entry _ Tryd.prog 39 Gr02_has.pk Gr02_has.rk Gr02_has.g]
theorem Gr02_word.hρ : ∀ e ∈ Gr02_word.ρ, EntryOk Tryd.prog e :=
  ents_cons (ent (fn := Tryd.f40) Gr02_isPart.spec (by kernel_rfl) (by kernel_rfl) (by kernel_rfl) (by kernel_rfl)) (ents_cons (ent (fn := Tryd.f16) Gr02_Keys.spec (by kernel_rfl) (by kernel_rfl) (by kernel_rfl) (by kernel_rfl)) (ents_cons (ent (fn := Tryd.f39) Gr02_has.spec (by kernel_rfl) (by kernel_rfl) (by kernel_rfl) (by kernel_rfl)) (ents_nil)))
def Gr02_word.fr28 : Fr := [(0, .str), (1, .int .i64), (4, .bx (.st 33)), (7, .int .i64)]
def Gr02_word.ou28 : Outs := [(1, [(0, .str), (1, .int .i64), (4, .bx (.st 33)), (7, .int .i64)])]
def Gr02_word.T28 (k : Nat) (x : Gr02_word.fr28.T) (κ : Kp (Tp Gr02_word.rk) Gr02_word.ou28) : Option (Tp Gr02_word.rk) := Gr02_word.l28 k x.1 x.2.1 x.2.2.1 x.2.2.2 κ.1
def Gr02_word.Λ0 : Cuts (Tp Gr02_word.rk) := cutsOf []
def Gr02_word.Λ : Cuts (Tp Gr02_word.rk) := cutsOf [(28, cut Tryd.prog Gr02_word.fr28 Gr02_word.ou28 (Gr02_word.T28 NN))]
theorem Gr02_word.c28 (A : Ks) (w0 : World) : CutOk Tryd.prog ⟨Tryd.f66.ntmps, 0, A⟩ w0 (kRet Tryd.prog Tryd.f66.results.toList Gr02_word.rk) (bodyOf Tryd.f66) 28 (cut Tryd.prog Gr02_word.fr28 Gr02_word.ou28 (Gr02_word.T28 NN)) :=
  loop_ok Gr02_word.hρ (Λ := Gr02_word.Λ0) (cuts_nil) (by kernel_rfl) (D := 64) (b := loopOf Tryd.f66 28) (by kernel_rfl) (by kernel_rfl) NN (fun x κ => by kernel_rfl) (fun k x κ => by kernel_rfl)
theorem Gr02_word.spec : Spec Tryd.prog 66 Gr02_word.pk Gr02_word.rk Gr02_word.g :=
  spec_of_body (fn := Tryd.f66) (c := bodyOf Tryd.f66) (by kernel_rfl) (by kernel_rfl) (by kernel_rfl) (by kernel_rfl) (ρ := Gr02_word.ρ) Gr02_word.hρ (Λ := Gr02_word.Λ) (fun A w0 => cuts_cons (Gr02_word.c28 A w0) (cuts_nil)) (fun x => by kernel_rfl)

/-! ### 68 bluebell/bluebellref02.nibble -/
def Gr02_nibble.f (a0 : Int) : Option Int :=
  (Gr02_isDigit.f a0).bind fun r1 => bif r1 then some (IntKind.i64.wrap (IntKind.u8.wrap (a0 - 48))) else bif ((decide (a0 ≥ 97)) && (decide (a0 ≤ 102))) then some (IntKind.i64.wrap ((IntKind.i64.wrap (IntKind.u8.wrap (a0 - 97))) + 10)) else bif ((decide (a0 ≥ 65)) && (decide (a0 ≤ 70))) then some (IntKind.i64.wrap ((IntKind.i64.wrap (IntKind.u8.wrap (a0 - 65))) + 10)) else some (-1)
def Gr02_nibble.pk : List FK := [.int .u8]
def Gr02_nibble.rk : List FK := [.int .i64]
def Gr02_nibble.g : Tp Gr02_nibble.pk → Option (Tp Gr02_nibble.rk) := fun x => Gr02_nibble.f x
def Gr02_nibble.ρ : List (Entry (Tp Gr02_nibble.rk)) := [entry _ Tryd.prog 59 Gr02_isDigit.pk Gr02_isDigit.rk Gr02_isDigit.g]
theorem Gr02_nibble.hρ : ∀ e ∈ Gr02_nibble.ρ, EntryOk Tryd.prog e :=
  ents_cons (ent (fn := Tryd.f59) Gr02_isDigit.spec (by kernel_rfl) (by kernel_rfl) (by kernel_rfl) (by kernel_rfl)) (ents_nil)
def Gr02_nibble.Λ : Cuts (Tp Gr02_nibble.rk) := cutsOf []
theorem Gr02_nibble.spec : Spec Tryd.prog 68 Gr02_nibble.pk Gr02_nibble.rk Gr02_nibble.g :=
  spec_of_body (fn := Tryd.f68) (c := bodyOf Tryd.f68) (by kernel_rfl) (by kernel_rfl) (by kernel_rfl) (by kernel_rfl) (ρ := Gr02_nibble.ρ) Gr02_nibble.hρ (Λ := Gr02_nibble.Λ) (fun A w0 => cuts_nil) (fun x => by kernel_rfl)

/-! ### 67 bluebell/bluebellref02.number -/
def Gr02_number.l28 : Nat → ByteArray → Int → Int → Int → D → Int → Int → ((Int × Int × D × Int × Int) → Option (D × Int × Int)) → Option (D × Int × Int)
  | 0, _, _, _, _, _, _, _, _ => none
  | k + 1, v0, v1, v3, v4, v10, v13, v14, κ1 =>
    bif decide (v14 < (v0.size : Int)) then gd (inB v14 v0.size) ((Gr02_nibble.f (bt v0 v14.toNat)).bind fun r1 => bif ((decide (r1 < 0)) || (decide (r1 ≥ v3))) then κ1 (v1, v4, v10, v13, v14) else bif decide (v13 ≤ v4) then Gr02_number.l28 k v0 v1 v3 v4 v10 (IntKind.i64.wrap ((IntKind.i64.wrap (v13 * v3)) + r1)) (IntKind.i64.wrap (v14 + 1)) κ1 else Gr02_number.l28 k v0 v1 v3 v4 v10 v13 (IntKind.i64.wrap (v14 + 1)) κ1) else κ1 (v1, v4, v10, v13, v14)
def Gr02_number.p63 (v1 : Int) (v10 : D) (v13 : Int) (v14 : Int) : Option (D × Int × Int) :=
  some (.r [.i 2, .s ByteArray.empty, .i v13, .i v1], v14, 0)
def Gr02_number.f (a0 : ByteArray) (a1 : Int) (a2 : Int) (a3 : Int) (a4 : Int) : Option (D × Int × Int) :=
  Gr02_number.l28 NN a0 a1 a3 a4 (.r [.i 0, .s ByteArray.empty, .i 0, .i 0]) 0 a2 (fun y2 => bif decide (y2.2.2.2.1 > y2.2.1) then some (.r [.i 0, .s ByteArray.empty, .i 0, .i 0], y2.1, 22) else bif decide (y2.2.2.2.1 ≥ 2147483648) then Gr02_number.p63 y2.1 y2.2.2.1 (IntKind.i64.wrap (y2.2.2.2.1 - 4294967296)) y2.2.2.2.2 else Gr02_number.p63 y2.1 y2.2.2.1 y2.2.2.2.1 y2.2.2.2.2)
def Gr02_number.pk : List FK := [.str, .int .i64, .int .i64, .int .i64, .int .i64]
def Gr02_number.rk : List FK := [.st 33, .int .i64, .int .i64]
def Gr02_number.g : Tp Gr02_number.pk → Option (Tp Gr02_number.rk) := fun x => Gr02_number.f x.1 x.2.1 x.2.2.1 x.2.2.2.1 x.2.2.2.2
def Gr02_number.ρ : List (Entry (Tp Gr02_number.rk)) := [entry _ Tryd.prog 68 Gr02_nibble.pk Gr02_nibble.rk Gr02_nibble.g]
theorem Gr02_number.hρ : ∀ e ∈ Gr02_number.ρ, EntryOk Tryd.prog e :=
  ents_cons (ent (fn := Tryd.f68) Gr02_nibble.spec (by kernel_rfl) (by kernel_rfl) (by kernel_rfl) (by kernel_rfl)) (ents_nil)
def Gr02_number.fr28 : Fr := [(0, .str), (1, .int .i64), (3, .int .i64), (4, .int .i64), (10, .bx (.st 33)), (13, .int .i64), (14, .int .i64)]
def Gr02_number.ou28 : Outs := [(1, [(1, .int .i64), (4, .int .i64), (10, .bx (.st 33)), (13, .int .i64), (14, .int .i64)])]
def Gr02_number.T28 (k : Nat) (x : Gr02_number.fr28.T) (κ : Kp (Tp Gr02_number.rk) Gr02_number.ou28) : Option (Tp Gr02_number.rk) := Gr02_number.l28 k x.1 x.2.1 x.2.2.1 x.2.2.2.1 x.2.2.2.2.1 x.2.2.2.2.2.1 x.2.2.2.2.2.2 κ.1
def Gr02_number.fr63 : Fr := [(1, .int .i64), (10, .bx (.st 33)), (13, .int .i64), (14, .int .i64)]
def Gr02_number.ou63 : Outs := []
def Gr02_number.T63 (x : Gr02_number.fr63.T) (κ : Kp (Tp Gr02_number.rk) Gr02_number.ou63) : Option (Tp Gr02_number.rk) := Gr02_number.p63 x.1 x.2.1 x.2.2.1 x.2.2.2
def Gr02_number.Λ0 : Cuts (Tp Gr02_number.rk) := cutsOf []
def Gr02_number.Λ1 : Cuts (Tp Gr02_number.rk) := cutsOf [(28, cut Tryd.prog Gr02_number.fr28 Gr02_number.ou28 (Gr02_number.T28 NN))]
def Gr02_number.Λ : Cuts (Tp Gr02_number.rk) := cutsOf [(63, cut Tryd.prog Gr02_number.fr63 Gr02_number.ou63 (Gr02_number.T63)), (28, cut Tryd.prog Gr02_number.fr28 Gr02_number.ou28 (Gr02_number.T28 NN))]
theorem Gr02_number.c28 (A : Ks) (w0 : World) : CutOk Tryd.prog ⟨Tryd.f67.ntmps, 0, A⟩ w0 (kRet Tryd.prog Tryd.f67.results.toList Gr02_number.rk) (bodyOf Tryd.f67) 28 (cut Tryd.prog Gr02_number.fr28 Gr02_number.ou28 (Gr02_number.T28 NN)) :=
  loop_ok Gr02_number.hρ (Λ := Gr02_number.Λ0) (cuts_nil) (by kernel_rfl) (D := 64) (b := loopOf Tryd.f67 28) (by kernel_rfl) (by kernel_rfl) NN (fun x κ => by kernel_rfl) (fun k x κ => by kernel_rfl)
theorem Gr02_number.c63 (A : Ks) (w0 : World) : CutOk Tryd.prog ⟨Tryd.f67.ntmps, 0, A⟩ w0 (kRet Tryd.prog Tryd.f67.results.toList Gr02_number.rk) (bodyOf Tryd.f67) 63 (cut Tryd.prog Gr02_number.fr63 Gr02_number.ou63 (Gr02_number.T63)) :=
  cut_ok Gr02_number.hρ (Λ := Gr02_number.Λ1) (cuts_cons (Gr02_number.c28 A w0) (cuts_nil)) (by kernel_rfl) (by kernel_rfl) (D := 64) (c := nodeOf Tryd.f67 63) (by kernel_rfl) (by kernel_rfl) (fun x κ => by kernel_rfl)
theorem Gr02_number.spec : Spec Tryd.prog 67 Gr02_number.pk Gr02_number.rk Gr02_number.g :=
  spec_of_body (fn := Tryd.f67) (c := bodyOf Tryd.f67) (by kernel_rfl) (by kernel_rfl) (by kernel_rfl) (by kernel_rfl) (ρ := Gr02_number.ρ) Gr02_number.hρ (Λ := Gr02_number.Λ) (fun A w0 => cuts_cons (Gr02_number.c63 A w0) (cuts_cons (Gr02_number.c28 A w0) (cuts_nil))) (fun x => by kernel_rfl)

/-! ### 88 bluebell/bluebellref02.letter -/
def Gr02_letter.p64895 (v0 : ByteArray) (v1 : Int) (v56 : Bool) (κ0 : Int → Option (Int × Int × Bool)) : Option (Int × Int × Bool) :=
  bif v56 then gd (inB (IntKind.i64.wrap (v1 + 1)) v0.size) (some ((bt v0 (IntKind.i64.wrap (v1 + 1)).toNat), (IntKind.i64.wrap (v1 + 2)), true)) else κ0 v1
def Gr02_letter.p127 (v1 : Int) : Option (Int × Int × Bool) :=
  some (0, v1, false)
def Gr02_letter.f (a0 : ByteArray) (a1 : Int) (a2 : Int) : Option (Int × Int × Bool) :=
  bif decide (a1 ≥ (a0.size : Int)) then some (0, a1, false) else gd (inB a1 a0.size) (bif ((bt a0 a1.toNat) != 42) then some ((bt a0 a1.toNat), (IntKind.i64.wrap (a1 + 1)), (((decide ((bt a0 a1.toNat) ≥ 32)) && (decide ((bt a0 a1.toNat) ≤ 126))) && ((bt a0 a1.toNat) != a2))) else bif decide ((IntKind.i64.wrap (a1 + 1)) ≥ (a0.size : Int)) then some (0, a1, false) else gd (inB (IntKind.i64.wrap (a1 + 1)) a0.size) (bif ((bt a0 (IntKind.i64.wrap (a1 + 1)).toNat) == 110) then some (10, (IntKind.i64.wrap (a1 + 2)), true) else bif ((bt a0 (IntKind.i64.wrap (a1 + 1)).toNat) == 116) then some (9, (IntKind.i64.wrap (a1 + 2)), true) else bif ((bt a0 (IntKind.i64.wrap (a1 + 1)).toNat) == 115) then some (32, (IntKind.i64.wrap (a1 + 2)), true) else bif ((bt a0 (IntKind.i64.wrap (a1 + 1)).toNat) == 42) then Gr02_letter.p64895 a0 a1 ((bt a0 (IntKind.i64.wrap (a1 + 1)).toNat) == 42) (fun y1 => Gr02_letter.p127 y1) else bif ((bt a0 (IntKind.i64.wrap (a1 + 1)).toNat) == 39) then Gr02_letter.p64895 a0 a1 ((bt a0 (IntKind.i64.wrap (a1 + 1)).toNat) == 39) (fun y2 => Gr02_letter.p127 y2) else Gr02_letter.p64895 a0 a1 ((bt a0 (IntKind.i64.wrap (a1 + 1)).toNat) == 34) (fun y3 => Gr02_letter.p127 y3)))
def Gr02_letter.pk : List FK := [.str, .int .i64, .int .u8]
def Gr02_letter.rk : List FK := [.int .u8, .int .i64, .bool]
def Gr02_letter.g : Tp Gr02_letter.pk → Option (Tp Gr02_letter.rk) := fun x => Gr02_letter.f x.1 x.2.1 x.2.2
def Gr02_letter.ρ : List (Entry (Tp Gr02_letter.rk)) := []
theorem Gr02_letter.hρ : ∀ e ∈ Gr02_letter.ρ, EntryOk Tryd.prog e :=
  ents_nil
def Gr02_letter.fr64895 : Fr := [(0, .str), (1, .int .i64), (56, .bool)]
def Gr02_letter.ou64895 : Outs := [(0, [(1, .int .i64)])]
def Gr02_letter.T64895 (x : Gr02_letter.fr64895.T) (κ : Kp (Tp Gr02_letter.rk) Gr02_letter.ou64895) : Option (Tp Gr02_letter.rk) := Gr02_letter.p64895 x.1 x.2.1 x.2.2 κ.1
def Gr02_letter.fr127 : Fr := [(1, .int .i64)]
def Gr02_letter.ou127 : Outs := []
def Gr02_letter.T127 (x : Gr02_letter.fr127.T) (κ : Kp (Tp Gr02_letter.rk) Gr02_letter.ou127) : Option (Tp Gr02_letter.rk) := Gr02_letter.p127 x
def Gr02_letter.Λ0 : Cuts (Tp Gr02_letter.rk) := cutsOf []
def Gr02_letter.Λ1 : Cuts (Tp Gr02_letter.rk) := cutsOf [(64895, cut Tryd.prog Gr02_letter.fr64895 Gr02_letter.ou64895 (Gr02_letter.T64895))]
def Gr02_letter.Λ : Cuts (Tp Gr02_letter.rk) := cutsOf [(127, cut Tryd.prog Gr02_letter.fr127 Gr02_letter.ou127 (Gr02_letter.T127)), (64895, cut Tryd.prog Gr02_letter.fr64895 Gr02_letter.ou64895 (Gr02_letter.T64895))]
theorem Gr02_letter.c64895 (A : Ks) (w0 : World) : CutOk Tryd.prog ⟨Tryd.f88.ntmps, 0, A⟩ w0 (kRet Tryd.prog Tryd.f88.results.toList Gr02_letter.rk) (bodyOf Tryd.f88) 64895 (cut Tryd.prog Gr02_letter.fr64895 Gr02_letter.ou64895 (Gr02_letter.T64895)) :=
  cut_ok Gr02_letter.hρ (Λ := Gr02_letter.Λ0) (cuts_nil) (by kernel_rfl) (by kernel_rfl) (D := 64) (c := nodeOf Tryd.f88 64895) (by kernel_rfl) (by kernel_rfl) (fun x κ => by kernel_rfl)
theorem Gr02_letter.c127 (A : Ks) (w0 : World) : CutOk Tryd.prog ⟨Tryd.f88.ntmps, 0, A⟩ w0 (kRet Tryd.prog Tryd.f88.results.toList Gr02_letter.rk) (bodyOf Tryd.f88) 127 (cut Tryd.prog Gr02_letter.fr127 Gr02_letter.ou127 (Gr02_letter.T127)) :=
  cut_ok Gr02_letter.hρ (Λ := Gr02_letter.Λ1) (cuts_cons (Gr02_letter.c64895 A w0) (cuts_nil)) (by kernel_rfl) (by kernel_rfl) (D := 64) (c := nodeOf Tryd.f88 127) (by kernel_rfl) (by kernel_rfl) (fun x κ => by kernel_rfl)
theorem Gr02_letter.spec : Spec Tryd.prog 88 Gr02_letter.pk Gr02_letter.rk Gr02_letter.g :=
  spec_of_body (fn := Tryd.f88) (c := bodyOf Tryd.f88) (by kernel_rfl) (by kernel_rfl) (by kernel_rfl) (by kernel_rfl) (ρ := Gr02_letter.ρ) Gr02_letter.hρ (Λ := Gr02_letter.Λ) (fun A w0 => cuts_cons (Gr02_letter.c127 A w0) (cuts_cons (Gr02_letter.c64895 A w0) (cuts_nil))) (fun x => by kernel_rfl)

/-! ### 69 bluebell/bluebellref02.text -/
def Gr02_text.l60 : Nat → ByteArray → Int → D → ByteArray → Int → ((Int × D × ByteArray × Int) → Option (D × Int × Int)) → Option (D × Int × Int)
  | 0, _, _, _, _, _, _ => none
  | k + 1, v0, v1, v4, v7, v8, κ1 =>
    gd ((!(!(decide (v8 ≥ (v0.size : Int))))) || (inB v8 v0.size)) (bif ((decide (v8 ≥ (v0.size : Int))) || ((bt v0 v8.toNat) != 34)) then (Gr02_letter.f v0 v8 34).bind fun r1 => bif (!r1.2.2) then some (.r [.i 0, .s ByteArray.empty, .i 0, .i 0], v1, 21) else gd (decide (v7.size + (bstr ([.i r1.1] : List D)).size ≤ maxS)) (Gr02_text.l60 k v0 v1 v4 (v7 ++ (bstr ([.i r1.1] : List D))) r1.2.1 κ1) else κ1 (v1, v4, v7, v8))
def Gr02_text.f (a0 : ByteArray) (a1 : Int) : Option (D × Int × Int) :=
  Gr02_text.l60 NN a0 a1 (.r [.i 0, .s ByteArray.empty, .i 0, .i 0]) strNil (IntKind.i64.wrap (a1 + 1)) (fun y2 => bif decide ((y2.2.2.1.size : Int) > 100) then some (.r [.i 0, .s ByteArray.empty, .i 0, .i 0], y2.1, 2) else some (.r [.i 3, .s y2.2.2.1, .i 0, .i y2.1], (IntKind.i64.wrap (y2.2.2.2 + 1)), 0))
def Gr02_text.pk : List FK := [.str, .int .i64]
def Gr02_text.rk : List FK := [.st 33, .int .i64, .int .i64]
def Gr02_text.g : Tp Gr02_text.pk → Option (Tp Gr02_text.rk) := fun x => Gr02_text.f x.1 x.2
def Gr02_text.ρ : List (Entry (Tp Gr02_text.rk)) := [entry _ Tryd.prog 88 Gr02_letter.pk Gr02_letter.rk Gr02_letter.g]
theorem Gr02_text.hρ : ∀ e ∈ Gr02_text.ρ, EntryOk Tryd.prog e :=
  ents_cons (ent (fn := Tryd.f88) Gr02_letter.spec (by kernel_rfl) (by kernel_rfl) (by kernel_rfl) (by kernel_rfl)) (ents_nil)
def Gr02_text.fr60 : Fr := [(0, .str), (1, .int .i64), (4, .bx (.st 33)), (7, .str), (8, .int .i64)]
def Gr02_text.ou60 : Outs := [(1, [(1, .int .i64), (4, .bx (.st 33)), (7, .str), (8, .int .i64)])]
def Gr02_text.T60 (k : Nat) (x : Gr02_text.fr60.T) (κ : Kp (Tp Gr02_text.rk) Gr02_text.ou60) : Option (Tp Gr02_text.rk) := Gr02_text.l60 k x.1 x.2.1 x.2.2.1 x.2.2.2.1 x.2.2.2.2 κ.1
def Gr02_text.Λ0 : Cuts (Tp Gr02_text.rk) := cutsOf []
def Gr02_text.Λ : Cuts (Tp Gr02_text.rk) := cutsOf [(60, cut Tryd.prog Gr02_text.fr60 Gr02_text.ou60 (Gr02_text.T60 NN))]
theorem Gr02_text.c60 (A : Ks) (w0 : World) : CutOk Tryd.prog ⟨Tryd.f69.ntmps, 0, A⟩ w0 (kRet Tryd.prog Tryd.f69.results.toList Gr02_text.rk) (bodyOf Tryd.f69) 60 (cut Tryd.prog Gr02_text.fr60 Gr02_text.ou60 (Gr02_text.T60 NN)) :=
  loop_ok Gr02_text.hρ (Λ := Gr02_text.Λ0) (cuts_nil) (by kernel_rfl) (D := 64) (b := loopOf Tryd.f69 60) (by kernel_rfl) (by kernel_rfl) NN (fun x κ => by kernel_rfl) (fun k x κ => by kernel_rfl)
theorem Gr02_text.spec : Spec Tryd.prog 69 Gr02_text.pk Gr02_text.rk Gr02_text.g :=
  spec_of_body (fn := Tryd.f69) (c := bodyOf Tryd.f69) (by kernel_rfl) (by kernel_rfl) (by kernel_rfl) (by kernel_rfl) (ρ := Gr02_text.ρ) Gr02_text.hρ (Λ := Gr02_text.Λ) (fun A w0 => cuts_cons (Gr02_text.c60 A w0) (cuts_nil)) (fun x => by kernel_rfl)

/-! ### 70 bluebell/bluebellref02.char -/
def Gr02_char.f (a0 : ByteArray) (a1 : Int) : Option (D × Int × Int) :=
  (Gr02_letter.f a0 (IntKind.i64.wrap (a1 + 1)) 39).bind fun r1 => gd ((!(!((!r1.2.2) || (decide (r1.2.1 ≥ (a0.size : Int)))))) || (inB r1.2.1 a0.size)) (bif (((!r1.2.2) || (decide (r1.2.1 ≥ (a0.size : Int)))) || ((bt a0 r1.2.1.toNat) != 39)) then some (.r [.i 0, .s ByteArray.empty, .i 0, .i 0], a1, 21) else some (.r [.i 2, .s ByteArray.empty, .i (IntKind.i64.wrap r1.1), .i a1], (IntKind.i64.wrap (r1.2.1 + 1)), 0))
def Gr02_char.pk : List FK := [.str, .int .i64]
def Gr02_char.rk : List FK := [.st 33, .int .i64, .int .i64]
def Gr02_char.g : Tp Gr02_char.pk → Option (Tp Gr02_char.rk) := fun x => Gr02_char.f x.1 x.2
def Gr02_char.ρ : List (Entry (Tp Gr02_char.rk)) := [entry _ Tryd.prog 88 Gr02_letter.pk Gr02_letter.rk Gr02_letter.g]
theorem Gr02_char.hρ : ∀ e ∈ Gr02_char.ρ, EntryOk Tryd.prog e :=
  ents_cons (ent (fn := Tryd.f88) Gr02_letter.spec (by kernel_rfl) (by kernel_rfl) (by kernel_rfl) (by kernel_rfl)) (ents_nil)
def Gr02_char.Λ : Cuts (Tp Gr02_char.rk) := cutsOf []
theorem Gr02_char.spec : Spec Tryd.prog 70 Gr02_char.pk Gr02_char.rk Gr02_char.g :=
  spec_of_body (fn := Tryd.f70) (c := bodyOf Tryd.f70) (by kernel_rfl) (by kernel_rfl) (by kernel_rfl) (by kernel_rfl) (ρ := Gr02_char.ρ) Gr02_char.hρ (Λ := Gr02_char.Λ) (fun A w0 => cuts_nil) (fun x => by kernel_rfl)

/-! ### 18 bluebell/bluebellref02.Signs -/
def Gr02_Signs.f : Option (List D) :=
  some ([.s str28, .s str29, .s str7b, .s str7d, .s str2c, .s str3b, .s str3a, .s str21, .s str25, .s str40, .s str2b, .s str2d, .s str2a, .s str2f, .s str26, .s str7c, .s str7e, .s str3f, .s str3d, .s str7e3d, .s str3c, .s str3c3d, .s str3e, .s str3e3d, .s str3c3c, .s str3e3e, .s str3a3d, .s str2d3e] : List D)
def Gr02_Signs.pk : List FK := []
def Gr02_Signs.rk : List FK := [.sl 9]
def Gr02_Signs.g : Tp Gr02_Signs.pk → Option (Tp Gr02_Signs.rk) := fun _ => Gr02_Signs.f
def Gr02_Signs.ρ : List (Entry (Tp Gr02_Signs.rk)) := []
theorem Gr02_Signs.hρ : ∀ e ∈ Gr02_Signs.ρ, EntryOk Tryd.prog e :=
  ents_nil
def Gr02_Signs.Λ : Cuts (Tp Gr02_Signs.rk) := cutsOf []
theorem Gr02_Signs.spec : Spec Tryd.prog 18 Gr02_Signs.pk Gr02_Signs.rk Gr02_Signs.g :=
  spec_of_body (fn := Tryd.f18) (c := bodyOf Tryd.f18) (by kernel_rfl) (by kernel_rfl) (by kernel_rfl) (by kernel_rfl) (ρ := Gr02_Signs.ρ) Gr02_Signs.hρ (Λ := Gr02_Signs.Λ) (fun A w0 => cuts_nil) (fun x => by kernel_rfl)

/-! ### 71 bluebell/bluebellref02.sign -/
def Gr02_sign.l26 : Nat → ByteArray → Int → D → Int → ((Int × D) → Option (D × Int × Int)) → Option (D × Int × Int)
  | 0, _, _, _, _, _ => none
  | k + 1, v0, v1, v4, v7, κ1 =>
    bif decide (v7 ≥ 1) then (bif (decide ((IntKind.i64.wrap (v1 + v7)) ≤ (v0.size : Int))) then Gr02_Signs.f else some []).bind fun r1 => gd ((!(decide ((IntKind.i64.wrap (v1 + v7)) ≤ (v0.size : Int)))) || (decide (0 ≤ v1) && (decide (v1 ≤ (IntKind.i64.wrap (v1 + v7))) && decide ((IntKind.i64.wrap (v1 + v7)) ≤ (v0.size : Int))))) ((bif (decide ((IntKind.i64.wrap (v1 + v7)) ≤ (v0.size : Int))) then Gr02_has.f r1 (v0.extract v1.toNat (IntKind.i64.wrap (v1 + v7)).toNat) else some false).bind fun r2 => bif ((decide ((IntKind.i64.wrap (v1 + v7)) ≤ (v0.size : Int))) && r2) then gd (decide (0 ≤ v1) && (decide (v1 ≤ (IntKind.i64.wrap (v1 + v7))) && decide ((IntKind.i64.wrap (v1 + v7)) ≤ (v0.size : Int)))) (some (.r [.i 5, .s (v0.extract v1.toNat (IntKind.i64.wrap (v1 + v7)).toNat), .i 0, .i v1], (IntKind.i64.wrap (v1 + v7)), 0)) else Gr02_sign.l26 k v0 v1 v4 (IntKind.i64.wrap (v7 - 1)) κ1) else κ1 (v1, v4)
def Gr02_sign.f (a0 : ByteArray) (a1 : Int) : Option (D × Int × Int) :=
  Gr02_sign.l26 NN a0 a1 (.r [.i 0, .s ByteArray.empty, .i 0, .i 0]) 2 (fun y3 => some (.r [.i 0, .s ByteArray.empty, .i 0, .i 0], y3.1, 20))
def Gr02_sign.pk : List FK := [.str, .int .i64]
def Gr02_sign.rk : List FK := [.st 33, .int .i64, .int .i64]
def Gr02_sign.g : Tp Gr02_sign.pk → Option (Tp Gr02_sign.rk) := fun x => Gr02_sign.f x.1 x.2
def Gr02_sign.ρ : List (Entry (Tp Gr02_sign.rk)) := [entry _ Tryd.prog 18 Gr02_Signs.pk Gr02_Signs.rk Gr02_Signs.g, entry _ Tryd.prog 39 Gr02_has.pk Gr02_has.rk Gr02_has.g]
theorem Gr02_sign.hρ : ∀ e ∈ Gr02_sign.ρ, EntryOk Tryd.prog e :=
  ents_cons (ent (fn := Tryd.f18) Gr02_Signs.spec (by kernel_rfl) (by kernel_rfl) (by kernel_rfl) (by kernel_rfl)) (ents_cons (ent (fn := Tryd.f39) Gr02_has.spec (by kernel_rfl) (by kernel_rfl) (by kernel_rfl) (by kernel_rfl)) (ents_nil))
def Gr02_sign.fr26 : Fr := [(0, .str), (1, .int .i64), (4, .bx (.st 33)), (7, .int .i64)]
def Gr02_sign.ou26 : Outs := [(1, [(1, .int .i64), (4, .bx (.st 33))])]
def Gr02_sign.T26 (k : Nat) (x : Gr02_sign.fr26.T) (κ : Kp (Tp Gr02_sign.rk) Gr02_sign.ou26) : Option (Tp Gr02_sign.rk) := Gr02_sign.l26 k x.1 x.2.1 x.2.2.1 x.2.2.2 κ.1
def Gr02_sign.Λ0 : Cuts (Tp Gr02_sign.rk) := cutsOf []
def Gr02_sign.Λ : Cuts (Tp Gr02_sign.rk) := cutsOf [(26, cut Tryd.prog Gr02_sign.fr26 Gr02_sign.ou26 (Gr02_sign.T26 NN))]
theorem Gr02_sign.c26 (A : Ks) (w0 : World) : CutOk Tryd.prog ⟨Tryd.f71.ntmps, 0, A⟩ w0 (kRet Tryd.prog Tryd.f71.results.toList Gr02_sign.rk) (bodyOf Tryd.f71) 26 (cut Tryd.prog Gr02_sign.fr26 Gr02_sign.ou26 (Gr02_sign.T26 NN)) :=
  loop_ok Gr02_sign.hρ (Λ := Gr02_sign.Λ0) (cuts_nil) (by kernel_rfl) (D := 64) (b := loopOf Tryd.f71 26) (by kernel_rfl) (by kernel_rfl) NN (fun x κ => by kernel_rfl) (fun k x κ => by kernel_rfl)
theorem Gr02_sign.spec : Spec Tryd.prog 71 Gr02_sign.pk Gr02_sign.rk Gr02_sign.g :=
  spec_of_body (fn := Tryd.f71) (c := bodyOf Tryd.f71) (by kernel_rfl) (by kernel_rfl) (by kernel_rfl) (by kernel_rfl) (ρ := Gr02_sign.ρ) Gr02_sign.hρ (Λ := Gr02_sign.Λ) (fun A w0 => cuts_cons (Gr02_sign.c26 A w0) (cuts_nil)) (fun x => by kernel_rfl)

/-! ### 44 bluebell/bluebellref02.next -/
def Gr02_next.f (a0 : ByteArray) (a1 : Int) : Option (D × Int × Int) :=
  gd (inB a1 a0.size) ((Gr02_isSmall.f (bt a0 a1.toNat)).bind fun r1 => bif r1 then (Gr02_word.f a0 a1).bind fun r2 => some (r2.1, r2.2.1, r2.2.2) else (Gr02_isDigit.f (bt a0 a1.toNat)).bind fun r3 => bif r3 then (Gr02_number.f a0 a1 a1 10 2147483647).bind fun r4 => some (r4.1, r4.2.1, r4.2.2) else bif ((bt a0 a1.toNat) == 35) then gd ((!(!(decide ((IntKind.i64.wrap (a1 + 1)) ≥ (a0.size : Int))))) || (inB (IntKind.i64.wrap (a1 + 1)) a0.size)) ((bif (!(decide ((IntKind.i64.wrap (a1 + 1)) ≥ (a0.size : Int)))) then Gr02_nibble.f (bt a0 (IntKind.i64.wrap (a1 + 1)).toNat) else some 0).bind fun r5 => bif ((decide ((IntKind.i64.wrap (a1 + 1)) ≥ (a0.size : Int))) || (decide (r5 < 0))) then some (.r [.i 0, .s ByteArray.empty, .i 0, .i 0], a1, 20) else (Gr02_number.f a0 a1 (IntKind.i64.wrap (a1 + 1)) 16 4294967295).bind fun r6 => some (r6.1, r6.2.1, r6.2.2)) else bif ((bt a0 a1.toNat) == 34) then (Gr02_text.f a0 a1).bind fun r7 => some (r7.1, r7.2.1, r7.2.2) else bif ((bt a0 a1.toNat) == 39) then (Gr02_char.f a0 a1).bind fun r8 => some (r8.1, r8.2.1, r8.2.2) else (Gr02_sign.f a0 a1).bind fun r9 => some (r9.1, r9.2.1, r9.2.2))
def Gr02_next.pk : List FK := [.str, .int .i64]
def Gr02_next.rk : List FK := [.st 33, .int .i64, .int .i64]
def Gr02_next.g : Tp Gr02_next.pk → Option (Tp Gr02_next.rk) := fun x => Gr02_next.f x.1 x.2
def Gr02_next.ρ : List (Entry (Tp Gr02_next.rk)) := [entry _ Tryd.prog 38 Gr02_isSmall.pk Gr02_isSmall.rk Gr02_isSmall.g, entry _ Tryd.prog 66 Gr02_word.pk Gr02_word.rk Gr02_word.g, entry _ Tryd.prog 59 Gr02_isDigit.pk Gr02_isDigit.rk Gr02_isDigit.g, entry _ Tryd.prog 67 Gr02_number.pk Gr02_number.rk Gr02_number.g, entry _ Tryd.prog 68 Gr02_nibble.pk Gr02_nibble.rk Gr02_nibble.g, entry _ Tryd.prog 69 Gr02_text.pk Gr02_text.rk Gr02_text.g, entry _ Tryd.prog 70 Gr02_char.pk Gr02_char.rk Gr02_char.g, entry _ Tryd.prog 71 Gr02_sign.pk Gr02_sign.rk Gr02_sign.g]
theorem Gr02_next.hρ : ∀ e ∈ Gr02_next.ρ, EntryOk Tryd.prog e :=
  ents_cons (ent (fn := Tryd.f38) Gr02_isSmall.spec (by kernel_rfl) (by kernel_rfl) (by kernel_rfl) (by kernel_rfl)) (ents_cons (ent (fn := Tryd.f66) Gr02_word.spec (by kernel_rfl) (by kernel_rfl) (by kernel_rfl) (by kernel_rfl)) (ents_cons (ent (fn := Tryd.f59) Gr02_isDigit.spec (by kernel_rfl) (by kernel_rfl) (by kernel_rfl) (by kernel_rfl)) (ents_cons (ent (fn := Tryd.f67) Gr02_number.spec (by kernel_rfl) (by kernel_rfl) (by kernel_rfl) (by kernel_rfl)) (ents_cons (ent (fn := Tryd.f68) Gr02_nibble.spec (by kernel_rfl) (by kernel_rfl) (by kernel_rfl) (by kernel_rfl)) (ents_cons (ent (fn := Tryd.f69) Gr02_text.spec (by kernel_rfl) (by kernel_rfl) (by kernel_rfl) (by kernel_rfl)) (ents_cons (ent (fn := Tryd.f70) Gr02_char.spec (by kernel_rfl) (by kernel_rfl) (by kernel_rfl) (by kernel_rfl)) (ents_cons (ent (fn := Tryd.f71) Gr02_sign.spec (by kernel_rfl) (by kernel_rfl) (by kernel_rfl) (by kernel_rfl)) (ents_nil))))))))
def Gr02_next.Λ : Cuts (Tp Gr02_next.rk) := cutsOf []
theorem Gr02_next.spec : Spec Tryd.prog 44 Gr02_next.pk Gr02_next.rk Gr02_next.g :=
  spec_of_body (fn := Tryd.f44) (c := bodyOf Tryd.f44) (by kernel_rfl) (by kernel_rfl) (by kernel_rfl) (by kernel_rfl) (ρ := Gr02_next.ρ) Gr02_next.hρ (Λ := Gr02_next.Λ) (fun A w0 => cuts_nil) (fun x => by kernel_rfl)

/-! ### 22 bluebell/bluebellref02.Scan -/
def Gr02_Scan.p3915 (v0 : ByteArray) (v5 : List D) (v6 : Int) (v7 : D) (v8 : Int) (v9 : Int) (κ0 : (ByteArray × List D × Int) → Option (List D × Int × Int)) : Option (List D × Int × Int) :=
  bif (v9 != 0) then some ([], v9, v6) else gd (Nat.ble (v5.length + ([v7] : List D).length) lim) ((Gr02_behind.f v0 v8).bind fun r3 => κ0 (v0, (v5 ++ ([v7] : List D)), r3))
def Gr02_Scan.l122 : Nat → ByteArray → (List D) → Int → ((ByteArray × List D) → Option (List D × Int × Int)) → Option (List D × Int × Int)
  | 0, _, _, _, _ => none
  | k + 1, v0, v5, v6, κ1 =>
    bif decide (v6 < (v0.size : Int)) then (Gr02_next.f v0 v6).bind fun r2 => bif ((r2.2.2 == 0) && (decide ((v5.length : Int) ≥ 20000))) then Gr02_Scan.p3915 v0 v5 v6 r2.1 r2.2.1 2 (fun y4 => Gr02_Scan.l122 k y4.1 y4.2.1 y4.2.2 κ1) else Gr02_Scan.p3915 v0 v5 v6 r2.1 r2.2.1 r2.2.2 (fun y5 => Gr02_Scan.l122 k y5.1 y5.2.1 y5.2.2 κ1) else κ1 (v0, v5)
def Gr02_Scan.f (a0 : ByteArray) : Option (List D × Int × Int) :=
  bif decide ((a0.size : Int) > 40000) then some ([], 2, 0) else (Gr02_behind.f a0 0).bind fun r1 => Gr02_Scan.l122 NN a0 [] r1 (fun y6 => bif decide ((y6.2.length : Int) ≥ 20000) then some ([], 2, (y6.1.size : Int)) else gd (Nat.ble (y6.2.length + ([.r [.i 0, .s ByteArray.empty, .i 0, .i (y6.1.size : Int)]] : List D).length) lim) (some ((y6.2 ++ ([.r [.i 0, .s ByteArray.empty, .i 0, .i (y6.1.size : Int)]] : List D)), 0, 0)))
def Gr02_Scan.pk : List FK := [.str]
def Gr02_Scan.rk : List FK := [.own 33, .int .i64, .int .i64]
def Gr02_Scan.g : Tp Gr02_Scan.pk → Option (Tp Gr02_Scan.rk) := fun x => Gr02_Scan.f x
def Gr02_Scan.ρ : List (Entry (Tp Gr02_Scan.rk)) := [entry _ Tryd.prog 43 Gr02_behind.pk Gr02_behind.rk Gr02_behind.g, entry _ Tryd.prog 44 Gr02_next.pk Gr02_next.rk Gr02_next.g]
theorem Gr02_Scan.hρ : ∀ e ∈ Gr02_Scan.ρ, EntryOk Tryd.prog e :=
  ents_cons (ent (fn := Tryd.f43) Gr02_behind.spec (by kernel_rfl) (by kernel_rfl) (by kernel_rfl) (by kernel_rfl)) (ents_cons (ent (fn := Tryd.f44) Gr02_next.spec (by kernel_rfl) (by kernel_rfl) (by kernel_rfl) (by kernel_rfl)) (ents_nil))
def Gr02_Scan.fr3915 : Fr := [(0, .str), (5, .own 33), (6, .int .i64), (7, .bx (.st 33)), (8, .int .i64), (9, .int .i64)]
def Gr02_Scan.ou3915 : Outs := [(0, [(0, .str), (5, .own 33), (6, .int .i64)])]
def Gr02_Scan.T3915 (x : Gr02_Scan.fr3915.T) (κ : Kp (Tp Gr02_Scan.rk) Gr02_Scan.ou3915) : Option (Tp Gr02_Scan.rk) := Gr02_Scan.p3915 x.1 x.2.1 x.2.2.1 x.2.2.2.1 x.2.2.2.2.1 x.2.2.2.2.2 κ.1
def Gr02_Scan.fr122 : Fr := [(0, .str), (5, .own 33), (6, .int .i64)]
def Gr02_Scan.ou122 : Outs := [(1, [(0, .str), (5, .own 33)])]
def Gr02_Scan.T122 (k : Nat) (x : Gr02_Scan.fr122.T) (κ : Kp (Tp Gr02_Scan.rk) Gr02_Scan.ou122) : Option (Tp Gr02_Scan.rk) := Gr02_Scan.l122 k x.1 x.2.1 x.2.2 κ.1
def Gr02_Scan.Λ0 : Cuts (Tp Gr02_Scan.rk) := cutsOf []
def Gr02_Scan.Λ1 : Cuts (Tp Gr02_Scan.rk) := cutsOf [(3915, cut Tryd.prog Gr02_Scan.fr3915 Gr02_Scan.ou3915 (Gr02_Scan.T3915))]
def Gr02_Scan.Λ : Cuts (Tp Gr02_Scan.rk) := cutsOf [(122, cut Tryd.prog Gr02_Scan.fr122 Gr02_Scan.ou122 (Gr02_Scan.T122 NN)), (3915, cut Tryd.prog Gr02_Scan.fr3915 Gr02_Scan.ou3915 (Gr02_Scan.T3915))]
theorem Gr02_Scan.c3915 (A : Ks) (w0 : World) : CutOk Tryd.prog ⟨Tryd.f22.ntmps, 0, A⟩ w0 (kRet Tryd.prog Tryd.f22.results.toList Gr02_Scan.rk) (bodyOf Tryd.f22) 3915 (cut Tryd.prog Gr02_Scan.fr3915 Gr02_Scan.ou3915 (Gr02_Scan.T3915)) :=
  cut_ok Gr02_Scan.hρ (Λ := Gr02_Scan.Λ0) (cuts_nil) (by kernel_rfl) (by kernel_rfl) (D := 64) (c := nodeOf Tryd.f22 3915) (by kernel_rfl) (by kernel_rfl) (fun x κ => by kernel_rfl)
theorem Gr02_Scan.c122 (A : Ks) (w0 : World) : CutOk Tryd.prog ⟨Tryd.f22.ntmps, 0, A⟩ w0 (kRet Tryd.prog Tryd.f22.results.toList Gr02_Scan.rk) (bodyOf Tryd.f22) 122 (cut Tryd.prog Gr02_Scan.fr122 Gr02_Scan.ou122 (Gr02_Scan.T122 NN)) :=
  loop_ok Gr02_Scan.hρ (Λ := Gr02_Scan.Λ1) (cuts_cons (Gr02_Scan.c3915 A w0) (cuts_nil)) (by kernel_rfl) (D := 64) (b := loopOf Tryd.f22 122) (by kernel_rfl) (by kernel_rfl) NN (fun x κ => by kernel_rfl) (fun k x κ => by kernel_rfl)
theorem Gr02_Scan.spec : Spec Tryd.prog 22 Gr02_Scan.pk Gr02_Scan.rk Gr02_Scan.g :=
  spec_of_body (fn := Tryd.f22) (c := bodyOf Tryd.f22) (by kernel_rfl) (by kernel_rfl) (by kernel_rfl) (by kernel_rfl) (ρ := Gr02_Scan.ρ) Gr02_Scan.hρ (Λ := Gr02_Scan.Λ) (fun A w0 => cuts_cons (Gr02_Scan.c122 A w0) (cuts_cons (Gr02_Scan.c3915 A w0) (cuts_nil))) (fun x => by kernel_rfl)

/-! ### 23 bluebell/bluebelllaw02.eqTokens -/
def Gw02_eqTokens.l58 : Nat → (List D) → (List D) → Int → (Unit → Option Bool) → Option Bool
  | 0, _, _, _, _ => none
  | k + 1, v0, v1, v5, κ1 =>
    bif decide (v5 < (v0.length : Int)) then gd (inB v5 v0.length) (gd (inB v5 v1.length) (bif (!(((((rd v0 v5.toNat).cell 0).int) == (((rd v1 v5.toNat).cell 0).int)) && (((((rd v0 v5.toNat).cell 1).str).toList == (((rd v1 v5.toNat).cell 1).str).toList) && (((((rd v0 v5.toNat).cell 2).int) == (((rd v1 v5.toNat).cell 2).int)) && (((((rd v0 v5.toNat).cell 3).int) == (((rd v1 v5.toNat).cell 3).int)) && true))))) then some false else Gw02_eqTokens.l58 k v0 v1 (IntKind.i64.wrap (v5 + 1)) κ1)) else κ1 ()
def Gw02_eqTokens.f (a0 : List D) (a1 : List D) : Option Bool :=
  bif ((a0.length : Int) != (a1.length : Int)) then some false else Gw02_eqTokens.l58 NN a0 a1 0 (fun y1 => some true)
def Gw02_eqTokens.pk : List FK := [.sl 33, .sl 33]
def Gw02_eqTokens.rk : List FK := [.bool]
def Gw02_eqTokens.g : Tp Gw02_eqTokens.pk → Option (Tp Gw02_eqTokens.rk) := fun x => Gw02_eqTokens.f x.1 x.2
def Gw02_eqTokens.ρ : List (Entry (Tp Gw02_eqTokens.rk)) := []
theorem Gw02_eqTokens.hρ : ∀ e ∈ Gw02_eqTokens.ρ, EntryOk Tryd.prog e :=
  ents_nil
def Gw02_eqTokens.fr58 : Fr := [(0, .sl 33), (1, .sl 33), (5, .int .i64)]
def Gw02_eqTokens.ou58 : Outs := [(1, [])]
def Gw02_eqTokens.T58 (k : Nat) (x : Gw02_eqTokens.fr58.T) (κ : Kp (Tp Gw02_eqTokens.rk) Gw02_eqTokens.ou58) : Option (Tp Gw02_eqTokens.rk) := Gw02_eqTokens.l58 k x.1 x.2.1 x.2.2 κ.1
def Gw02_eqTokens.Λ0 : Cuts (Tp Gw02_eqTokens.rk) := cutsOf []
def Gw02_eqTokens.Λ : Cuts (Tp Gw02_eqTokens.rk) := cutsOf [(58, cut Tryd.prog Gw02_eqTokens.fr58 Gw02_eqTokens.ou58 (Gw02_eqTokens.T58 NN))]
theorem Gw02_eqTokens.c58 (A : Ks) (w0 : World) : CutOk Tryd.prog ⟨Tryd.f23.ntmps, 0, A⟩ w0 (kRet Tryd.prog Tryd.f23.results.toList Gw02_eqTokens.rk) (bodyOf Tryd.f23) 58 (cut Tryd.prog Gw02_eqTokens.fr58 Gw02_eqTokens.ou58 (Gw02_eqTokens.T58 NN)) :=
  loop_ok Gw02_eqTokens.hρ (Λ := Gw02_eqTokens.Λ0) (cuts_nil) (by kernel_rfl) (D := 64) (b := loopOf Tryd.f23 58) (by kernel_rfl) (by kernel_rfl) NN (fun x κ => by kernel_rfl) (fun k x κ => by kernel_rfl)
theorem Gw02_eqTokens.spec : Spec Tryd.prog 23 Gw02_eqTokens.pk Gw02_eqTokens.rk Gw02_eqTokens.g :=
  spec_of_body (fn := Tryd.f23) (c := bodyOf Tryd.f23) (by kernel_rfl) (by kernel_rfl) (by kernel_rfl) (by kernel_rfl) (ρ := Gw02_eqTokens.ρ) Gw02_eqTokens.hρ (Λ := Gw02_eqTokens.Λ) (fun A w0 => cuts_cons (Gw02_eqTokens.c58 A w0) (cuts_nil)) (fun x => by kernel_rfl)

/-! ### 24 bluebell/bluebelllaw02.awake -/
def Gw02_awake.f : Option Bool :=
  (Glex_Scan.f str783a3d236666).bind fun r1 => gd ((!((r1.2.1 == 0) && ((r1.1.length : Int) == 4))) || (inB 0 r1.1.length)) (gd ((!((r1.2.1 == 0) && ((r1.1.length : Int) == 4))) || (Nat.blt 0 r1.1.length)) (gd ((!(((r1.2.1 == 0) && ((r1.1.length : Int) == 4)) && (((((rd r1.1 0).cell 0).int) == 1) && (((((rd r1.1 0).cell 1).str).toList == str78.toList) && (((((rd r1.1 0).cell 2).int) == 0) && (((((rd r1.1 0).cell 3).int) == 0) && true)))))) || (inB 1 r1.1.length)) (gd ((!(((r1.2.1 == 0) && ((r1.1.length : Int) == 4)) && (((((rd r1.1 0).cell 0).int) == 1) && (((((rd r1.1 0).cell 1).str).toList == str78.toList) && (((((rd r1.1 0).cell 2).int) == 0) && (((((rd r1.1 0).cell 3).int) == 0) && true)))))) || (Nat.blt 1 r1.1.length)) (gd ((!((((r1.2.1 == 0) && ((r1.1.length : Int) == 4)) && (((((rd r1.1 0).cell 0).int) == 1) && (((((rd r1.1 0).cell 1).str).toList == str78.toList) && (((((rd r1.1 0).cell 2).int) == 0) && (((((rd r1.1 0).cell 3).int) == 0) && true))))) && (((((rd r1.1 1).cell 0).int) == 5) && (((((rd r1.1 1).cell 1).str).toList == str3a3d.toList) && (((((rd r1.1 1).cell 2).int) == 0) && (((((rd r1.1 1).cell 3).int) == 1) && true)))))) || (inB 2 r1.1.length)) (gd ((!((((r1.2.1 == 0) && ((r1.1.length : Int) == 4)) && (((((rd r1.1 0).cell 0).int) == 1) && (((((rd r1.1 0).cell 1).str).toList == str78.toList) && (((((rd r1.1 0).cell 2).int) == 0) && (((((rd r1.1 0).cell 3).int) == 0) && true))))) && (((((rd r1.1 1).cell 0).int) == 5) && (((((rd r1.1 1).cell 1).str).toList == str3a3d.toList) && (((((rd r1.1 1).cell 2).int) == 0) && (((((rd r1.1 1).cell 3).int) == 1) && true)))))) || (Nat.blt 2 r1.1.length)) (some (((((r1.2.1 == 0) && ((r1.1.length : Int) == 4)) && (((((rd r1.1 0).cell 0).int) == 1) && (((((rd r1.1 0).cell 1).str).toList == str78.toList) && (((((rd r1.1 0).cell 2).int) == 0) && (((((rd r1.1 0).cell 3).int) == 0) && true))))) && (((((rd r1.1 1).cell 0).int) == 5) && (((((rd r1.1 1).cell 1).str).toList == str3a3d.toList) && (((((rd r1.1 1).cell 2).int) == 0) && (((((rd r1.1 1).cell 3).int) == 1) && true))))) && (((((rd r1.1 2).cell 0).int) == 2) && (((((rd r1.1 2).cell 1).str).toList == ByteArray.empty.toList) && (((((rd r1.1 2).cell 2).int) == 255) && (((((rd r1.1 2).cell 3).int) == 3) && true)))))))))))
def Gw02_awake.pk : List FK := []
def Gw02_awake.rk : List FK := [.bool]
def Gw02_awake.g : Tp Gw02_awake.pk → Option (Tp Gw02_awake.rk) := fun _ => Gw02_awake.f
def Gw02_awake.ρ : List (Entry (Tp Gw02_awake.rk)) := [entry _ Tryd.prog 21 Glex_Scan.pk Glex_Scan.rk Glex_Scan.g]
theorem Gw02_awake.hρ : ∀ e ∈ Gw02_awake.ρ, EntryOk Tryd.prog e :=
  ents_cons (ent (fn := Tryd.f21) Glex_Scan.spec (by kernel_rfl) (by kernel_rfl) (by kernel_rfl) (by kernel_rfl)) (ents_nil)
def Gw02_awake.Λ : Cuts (Tp Gw02_awake.rk) := cutsOf []
theorem Gw02_awake.spec : Spec Tryd.prog 24 Gw02_awake.pk Gw02_awake.rk Gw02_awake.g :=
  spec_of_body (fn := Tryd.f24) (c := bodyOf Tryd.f24) (by kernel_rfl) (by kernel_rfl) (by kernel_rfl) (by kernel_rfl) (ρ := Gw02_awake.ρ) Gw02_awake.hρ (Λ := Gw02_awake.Λ) (fun A w0 => cuts_nil) (fun x => by kernel_rfl)

/-! ### 4 bluebell/bluebelllaw02.LexScans -/
def Gw02_LexScans.f (a0 : ByteArray) : Option Bool :=
  (Glex_Scan.f a0).bind fun r1 => (Gr02_Scan.f a0).bind fun r2 => (Gw02_eqTokens.f r1.1 r2.1).bind fun r3 => (bif ((r3 && (r1.2.1 == r2.2.1)) && (r1.2.2 == r2.2.2)) then Gw02_awake.f else some false).bind fun r4 => some (((r3 && (r1.2.1 == r2.2.1)) && (r1.2.2 == r2.2.2)) && r4)
def Gw02_LexScans.pk : List FK := [.str]
def Gw02_LexScans.rk : List FK := [.bool]
def Gw02_LexScans.g : Tp Gw02_LexScans.pk → Option (Tp Gw02_LexScans.rk) := fun x => Gw02_LexScans.f x
def Gw02_LexScans.ρ : List (Entry (Tp Gw02_LexScans.rk)) := [entry _ Tryd.prog 21 Glex_Scan.pk Glex_Scan.rk Glex_Scan.g, entry _ Tryd.prog 22 Gr02_Scan.pk Gr02_Scan.rk Gr02_Scan.g, entry _ Tryd.prog 23 Gw02_eqTokens.pk Gw02_eqTokens.rk Gw02_eqTokens.g, entry _ Tryd.prog 24 Gw02_awake.pk Gw02_awake.rk Gw02_awake.g]
theorem Gw02_LexScans.hρ : ∀ e ∈ Gw02_LexScans.ρ, EntryOk Tryd.prog e :=
  ents_cons (ent (fn := Tryd.f21) Glex_Scan.spec (by kernel_rfl) (by kernel_rfl) (by kernel_rfl) (by kernel_rfl)) (ents_cons (ent (fn := Tryd.f22) Gr02_Scan.spec (by kernel_rfl) (by kernel_rfl) (by kernel_rfl) (by kernel_rfl)) (ents_cons (ent (fn := Tryd.f23) Gw02_eqTokens.spec (by kernel_rfl) (by kernel_rfl) (by kernel_rfl) (by kernel_rfl)) (ents_cons (ent (fn := Tryd.f24) Gw02_awake.spec (by kernel_rfl) (by kernel_rfl) (by kernel_rfl) (by kernel_rfl)) (ents_nil))))
def Gw02_LexScans.Λ : Cuts (Tp Gw02_LexScans.rk) := cutsOf []
theorem Gw02_LexScans.spec : Spec Tryd.prog 4 Gw02_LexScans.pk Gw02_LexScans.rk Gw02_LexScans.g :=
  spec_of_body (fn := Tryd.f4) (c := bodyOf Tryd.f4) (by kernel_rfl) (by kernel_rfl) (by kernel_rfl) (by kernel_rfl) (ρ := Gw02_LexScans.ρ) Gw02_LexScans.hρ (Λ := Gw02_LexScans.Λ) (fun A w0 => cuts_nil) (fun x => by kernel_rfl)

/-! ### 5 bluebell/bluebelllaw02.LexTwo -/
def Gw02_LexTwo.l8186 : Nat → ByteArray → (List D) → (List D) → Int → (List D) → Int → ((List D × Int × List D) → Option Bool) → Option Bool
  | 0, _, _, _, _, _, _, _ => none
  | k + 1, v0, v8, v11, v12, v14, v15, κ1 =>
    bif decide (v15 < (v8.length : Int)) then gd (inB v15 v8.length) (gd (Nat.blt v15.toNat v8.length) (gd (Nat.ble (v14.length + ([.r [.i (((rd v8 v15.toNat).cell 0).int), .s (((rd v8 v15.toNat).cell 1).str), .i (((rd v8 v15.toNat).cell 2).int), .i (IntKind.i64.wrap ((((rd v8 v15.toNat).cell 3).int) + (IntKind.i64.wrap ((v0.size : Int) + 1))))]] : List D).length) lim) (Gw02_LexTwo.l8186 k v0 v8 v11 v12 (v14 ++ ([.r [.i (((rd v8 v15.toNat).cell 0).int), .s (((rd v8 v15.toNat).cell 1).str), .i (((rd v8 v15.toNat).cell 2).int), .i (IntKind.i64.wrap ((((rd v8 v15.toNat).cell 3).int) + (IntKind.i64.wrap ((v0.size : Int) + 1))))]] : List D)) (IntKind.i64.wrap (v15 + 1)) κ1))) else κ1 (v11, v12, v14)
def Gw02_LexTwo.f (a0 : ByteArray) (a1 : ByteArray) : Option Bool :=
  bif decide ((IntKind.i64.wrap ((a0.size : Int) + (a1.size : Int))) ≥ 40000) then (Gw02_awake.f).bind fun r1 => some r1 else (Glex_Scan.f a0).bind fun r2 => (Glex_Scan.f a1).bind fun r3 => gd (decide (a0.size + str0a.size ≤ maxS)) (gd (decide ((a0 ++ str0a).size + a1.size ≤ maxS)) ((Glex_Scan.f ((a0 ++ str0a) ++ a1)).bind fun r4 => bif ((r2.2.1 != 0) || (decide ((IntKind.i64.wrap ((IntKind.i64.wrap ((r2.1.length : Int) + (a1.size : Int))) + 1)) > 20000))) then (bif ((r4.2.1 != 0) || (r2.2.1 == 0)) then Gw02_awake.f else some false).bind fun r5 => some (((r4.2.1 != 0) || (r2.2.1 == 0)) && r5) else bif (r3.2.1 != 0) then (bif ((r4.2.1 == r3.2.1) && (r4.2.2 == (IntKind.i64.wrap ((IntKind.i64.wrap (r3.2.2 + (a0.size : Int))) + 1)))) then Gw02_awake.f else some false).bind fun r6 => some (((r4.2.1 == r3.2.1) && (r4.2.2 == (IntKind.i64.wrap ((IntKind.i64.wrap (r3.2.2 + (a0.size : Int))) + 1)))) && r6) else bif ((r2.1.length : Int) == 0) then some false else gd (decide (0 ≤ (IntKind.i64.wrap ((r2.1.length : Int) - 1))) && decide ((IntKind.i64.wrap ((r2.1.length : Int) - 1)) ≤ (r2.1.length : Int))) (gd (Nat.ble ((r2.1.take (IntKind.i64.wrap ((r2.1.length : Int) - 1)).toNat).drop 0).length lim) (Gw02_LexTwo.l8186 NN a0 r3.1 r4.1 r4.2.1 ((r2.1.take (IntKind.i64.wrap ((r2.1.length : Int) - 1)).toNat).drop 0) 0 (fun y7 => (bif (y7.2.1 == 0) then Gw02_eqTokens.f y7.1 y7.2.2 else some false).bind fun r8 => (bif ((y7.2.1 == 0) && r8) then Gw02_awake.f else some false).bind fun r9 => some (((y7.2.1 == 0) && r8) && r9))))))
def Gw02_LexTwo.pk : List FK := [.str, .str]
def Gw02_LexTwo.rk : List FK := [.bool]
def Gw02_LexTwo.g : Tp Gw02_LexTwo.pk → Option (Tp Gw02_LexTwo.rk) := fun x => Gw02_LexTwo.f x.1 x.2
def Gw02_LexTwo.ρ : List (Entry (Tp Gw02_LexTwo.rk)) := [entry _ Tryd.prog 24 Gw02_awake.pk Gw02_awake.rk Gw02_awake.g, entry _ Tryd.prog 21 Glex_Scan.pk Glex_Scan.rk Glex_Scan.g, entry _ Tryd.prog 23 Gw02_eqTokens.pk Gw02_eqTokens.rk Gw02_eqTokens.g]
theorem Gw02_LexTwo.hρ : ∀ e ∈ Gw02_LexTwo.ρ, EntryOk Tryd.prog e :=
  ents_cons (ent (fn := Tryd.f24) Gw02_awake.spec (by kernel_rfl) (by kernel_rfl) (by kernel_rfl) (by kernel_rfl)) (ents_cons (ent (fn := Tryd.f21) Glex_Scan.spec (by kernel_rfl) (by kernel_rfl) (by kernel_rfl) (by kernel_rfl)) (ents_cons (ent (fn := Tryd.f23) Gw02_eqTokens.spec (by kernel_rfl) (by kernel_rfl) (by kernel_rfl) (by kernel_rfl)) (ents_nil)))
def Gw02_LexTwo.fr8186 : Fr := [(0, .str), (8, .own 33), (11, .own 33), (12, .int .i64), (14, .own 33), (15, .int .i64)]
def Gw02_LexTwo.ou8186 : Outs := [(1, [(11, .own 33), (12, .int .i64), (14, .own 33)])]
def Gw02_LexTwo.T8186 (k : Nat) (x : Gw02_LexTwo.fr8186.T) (κ : Kp (Tp Gw02_LexTwo.rk) Gw02_LexTwo.ou8186) : Option (Tp Gw02_LexTwo.rk) := Gw02_LexTwo.l8186 k x.1 x.2.1 x.2.2.1 x.2.2.2.1 x.2.2.2.2.1 x.2.2.2.2.2 κ.1
def Gw02_LexTwo.Λ0 : Cuts (Tp Gw02_LexTwo.rk) := cutsOf []
def Gw02_LexTwo.Λ : Cuts (Tp Gw02_LexTwo.rk) := cutsOf [(8186, cut Tryd.prog Gw02_LexTwo.fr8186 Gw02_LexTwo.ou8186 (Gw02_LexTwo.T8186 NN))]
theorem Gw02_LexTwo.c8186 (A : Ks) (w0 : World) : CutOk Tryd.prog ⟨Tryd.f5.ntmps, 0, A⟩ w0 (kRet Tryd.prog Tryd.f5.results.toList Gw02_LexTwo.rk) (bodyOf Tryd.f5) 8186 (cut Tryd.prog Gw02_LexTwo.fr8186 Gw02_LexTwo.ou8186 (Gw02_LexTwo.T8186 NN)) :=
  loop_ok Gw02_LexTwo.hρ (Λ := Gw02_LexTwo.Λ0) (cuts_nil) (by kernel_rfl) (D := 64) (b := loopOf Tryd.f5 8186) (by kernel_rfl) (by kernel_rfl) NN (fun x κ => by kernel_rfl) (fun k x κ => by kernel_rfl)
theorem Gw02_LexTwo.spec : Spec Tryd.prog 5 Gw02_LexTwo.pk Gw02_LexTwo.rk Gw02_LexTwo.g :=
  spec_of_body (fn := Tryd.f5) (c := bodyOf Tryd.f5) (by kernel_rfl) (by kernel_rfl) (by kernel_rfl) (by kernel_rfl) (ρ := Gw02_LexTwo.ρ) Gw02_LexTwo.hρ (Λ := Gw02_LexTwo.Λ) (fun A w0 => cuts_cons (Gw02_LexTwo.c8186 A w0) (cuts_nil)) (fun x => by kernel_rfl)

/-! ### 6 bluebell/bluebelllaw02.LexRises -/
def Gw02_LexRises.l250 : Nat → ByteArray → Int → (List D) → Int → ((ByteArray × Int × List D) → Option Bool) → Option Bool
  | 0, _, _, _, _, _ => none
  | k + 1, v0, v1, v5, v8, κ1 =>
    bif decide (v8 < (v5.length : Int)) then gd (inB v8 v5.length) (gd (Nat.blt v8.toNat v5.length) (gd (inB (IntKind.i64.wrap (v8 - 1)) v5.length) (gd (Nat.blt (IntKind.i64.wrap (v8 - 1)).toNat v5.length) (gd ((!(!(decide ((((rd v5 v8.toNat).cell 3).int) < (((rd v5 (IntKind.i64.wrap (v8 - 1)).toNat).cell 3).int))))) || (inB v8 v5.length)) (gd ((!(!(decide ((((rd v5 v8.toNat).cell 3).int) < (((rd v5 (IntKind.i64.wrap (v8 - 1)).toNat).cell 3).int))))) || (Nat.blt v8.toNat v5.length)) (gd ((!(!(decide ((((rd v5 v8.toNat).cell 3).int) < (((rd v5 (IntKind.i64.wrap (v8 - 1)).toNat).cell 3).int))))) || (inB (IntKind.i64.wrap (v8 - 1)) v5.length)) (gd ((!(!(decide ((((rd v5 v8.toNat).cell 3).int) < (((rd v5 (IntKind.i64.wrap (v8 - 1)).toNat).cell 3).int))))) || (Nat.blt (IntKind.i64.wrap (v8 - 1)).toNat v5.length)) (bif ((decide ((((rd v5 v8.toNat).cell 3).int) < (((rd v5 (IntKind.i64.wrap (v8 - 1)).toNat).cell 3).int))) || (((((rd v5 v8.toNat).cell 3).int) == (((rd v5 (IntKind.i64.wrap (v8 - 1)).toNat).cell 3).int)) && (decide (v8 < (IntKind.i64.wrap ((v5.length : Int) - 1)))))) then some false else Gw02_LexRises.l250 k v0 v1 v5 (IntKind.i64.wrap (v8 + 1)) κ1)))))))) else κ1 (v0, v1, v5)
def Gw02_LexRises.f (a0 : ByteArray) (a1 : Int) : Option Bool :=
  (Glex_Scan.f a0).bind fun r1 => bif (r1.2.1 != 0) then (bif ((((r1.1.length : Int) == 0) && (decide (r1.2.2 ≥ 0))) && (decide (r1.2.2 ≤ (a0.size : Int)))) then Gw02_awake.f else some false).bind fun r2 => some (((((r1.1.length : Int) == 0) && (decide (r1.2.2 ≥ 0))) && (decide (r1.2.2 ≤ (a0.size : Int)))) && r2) else gd ((!(!(((r1.1.length : Int) == 0) || (r1.2.2 != 0)))) || (inB (IntKind.i64.wrap ((r1.1.length : Int) - 1)) r1.1.length)) (gd ((!(!(((r1.1.length : Int) == 0) || (r1.2.2 != 0)))) || (Nat.blt (IntKind.i64.wrap ((r1.1.length : Int) - 1)).toNat r1.1.length)) (bif ((((r1.1.length : Int) == 0) || (r1.2.2 != 0)) || (!(((((rd r1.1 (IntKind.i64.wrap ((r1.1.length : Int) - 1)).toNat).cell 0).int) == 0) && (((((rd r1.1 (IntKind.i64.wrap ((r1.1.length : Int) - 1)).toNat).cell 1).str).toList == ByteArray.empty.toList) && (((((rd r1.1 (IntKind.i64.wrap ((r1.1.length : Int) - 1)).toNat).cell 2).int) == 0) && (((((rd r1.1 (IntKind.i64.wrap ((r1.1.length : Int) - 1)).toNat).cell 3).int) == (a0.size : Int)) && true)))))) then some false else Gw02_LexRises.l250 NN a0 a1 r1.1 1 (fun y3 => bif ((decide (y3.2.1 < 0)) || (decide (y3.2.1 ≥ (y3.2.2.length : Int)))) then (Gw02_awake.f).bind fun r4 => some r4 else gd (inB y3.2.1 y3.2.2.length) (gd (Nat.blt y3.2.1.toNat y3.2.2.length) (gd (decide (0 ≤ (((rd y3.2.2 y3.2.1.toNat).cell 3).int)) && decide ((((rd y3.2.2 y3.2.1.toNat).cell 3).int) ≤ (y3.1.size : Int))) ((Glex_Scan.f (y3.1.extract 0 (((rd y3.2.2 y3.2.1.toNat).cell 3).int).toNat)).bind fun r5 => gd (decide (0 ≤ y3.2.1) && decide (y3.2.1 ≤ (y3.2.2.length : Int))) (gd (Nat.ble ((y3.2.2.take y3.2.1.toNat).drop 0).length lim) (gd (inB y3.2.1 y3.2.2.length) (gd (Nat.blt y3.2.1.toNat y3.2.2.length) (gd (Nat.ble (((y3.2.2.take y3.2.1.toNat).drop 0).length + ([.r [.i 0, .s ByteArray.empty, .i 0, .i (((rd y3.2.2 y3.2.1.toNat).cell 3).int)]] : List D).length) lim) ((bif (r5.2.1 == 0) then Gw02_eqTokens.f r5.1 (((y3.2.2.take y3.2.1.toNat).drop 0) ++ ([.r [.i 0, .s ByteArray.empty, .i 0, .i (((rd y3.2.2 y3.2.1.toNat).cell 3).int)]] : List D)) else some false).bind fun r6 => (bif ((r5.2.1 == 0) && r6) then Gw02_awake.f else some false).bind fun r7 => some (((r5.2.1 == 0) && r6) && r7))))))))))))
def Gw02_LexRises.pk : List FK := [.str, .int .i64]
def Gw02_LexRises.rk : List FK := [.bool]
def Gw02_LexRises.g : Tp Gw02_LexRises.pk → Option (Tp Gw02_LexRises.rk) := fun x => Gw02_LexRises.f x.1 x.2
def Gw02_LexRises.ρ : List (Entry (Tp Gw02_LexRises.rk)) := [entry _ Tryd.prog 21 Glex_Scan.pk Glex_Scan.rk Glex_Scan.g, entry _ Tryd.prog 24 Gw02_awake.pk Gw02_awake.rk Gw02_awake.g, entry _ Tryd.prog 23 Gw02_eqTokens.pk Gw02_eqTokens.rk Gw02_eqTokens.g]
theorem Gw02_LexRises.hρ : ∀ e ∈ Gw02_LexRises.ρ, EntryOk Tryd.prog e :=
  ents_cons (ent (fn := Tryd.f21) Glex_Scan.spec (by kernel_rfl) (by kernel_rfl) (by kernel_rfl) (by kernel_rfl)) (ents_cons (ent (fn := Tryd.f24) Gw02_awake.spec (by kernel_rfl) (by kernel_rfl) (by kernel_rfl) (by kernel_rfl)) (ents_cons (ent (fn := Tryd.f23) Gw02_eqTokens.spec (by kernel_rfl) (by kernel_rfl) (by kernel_rfl) (by kernel_rfl)) (ents_nil)))
def Gw02_LexRises.fr250 : Fr := [(0, .str), (1, .int .i64), (5, .own 33), (8, .int .i64)]
def Gw02_LexRises.ou250 : Outs := [(1, [(0, .str), (1, .int .i64), (5, .own 33)])]
def Gw02_LexRises.T250 (k : Nat) (x : Gw02_LexRises.fr250.T) (κ : Kp (Tp Gw02_LexRises.rk) Gw02_LexRises.ou250) : Option (Tp Gw02_LexRises.rk) := Gw02_LexRises.l250 k x.1 x.2.1 x.2.2.1 x.2.2.2 κ.1
def Gw02_LexRises.Λ0 : Cuts (Tp Gw02_LexRises.rk) := cutsOf []
def Gw02_LexRises.Λ : Cuts (Tp Gw02_LexRises.rk) := cutsOf [(250, cut Tryd.prog Gw02_LexRises.fr250 Gw02_LexRises.ou250 (Gw02_LexRises.T250 NN))]
theorem Gw02_LexRises.c250 (A : Ks) (w0 : World) : CutOk Tryd.prog ⟨Tryd.f6.ntmps, 0, A⟩ w0 (kRet Tryd.prog Tryd.f6.results.toList Gw02_LexRises.rk) (bodyOf Tryd.f6) 250 (cut Tryd.prog Gw02_LexRises.fr250 Gw02_LexRises.ou250 (Gw02_LexRises.T250 NN)) :=
  loop_ok Gw02_LexRises.hρ (Λ := Gw02_LexRises.Λ0) (cuts_nil) (by kernel_rfl) (D := 64) (b := loopOf Tryd.f6 250) (by kernel_rfl) (by kernel_rfl) NN (fun x κ => by kernel_rfl) (fun k x κ => by kernel_rfl)
theorem Gw02_LexRises.spec : Spec Tryd.prog 6 Gw02_LexRises.pk Gw02_LexRises.rk Gw02_LexRises.g :=
  spec_of_body (fn := Tryd.f6) (c := bodyOf Tryd.f6) (by kernel_rfl) (by kernel_rfl) (by kernel_rfl) (by kernel_rfl) (ρ := Gw02_LexRises.ρ) Gw02_LexRises.hρ (Λ := Gw02_LexRises.Λ) (fun A w0 => cuts_cons (Gw02_LexRises.c250 A w0) (cuts_nil)) (fun x => by kernel_rfl)

/-! ### 25 bluebell/bluebelllaw02.alike -/
def Gw02_alike.l58 : Nat → (List D) → (List D) → Int → (Unit → Option Bool) → Option Bool
  | 0, _, _, _, _ => none
  | k + 1, v0, v1, v5, κ1 =>
    bif decide (v5 < (v0.length : Int)) then gd (inB v5 v0.length) (gd (inB v5 v1.length) (gd ((!(!((((rd v0 v5.toNat).cell 0).int) != (((rd v1 v5.toNat).cell 0).int)))) || (inB v5 v0.length)) (gd ((!(!((((rd v0 v5.toNat).cell 0).int) != (((rd v1 v5.toNat).cell 0).int)))) || (inB v5 v1.length)) (gd ((!(!(((((rd v0 v5.toNat).cell 0).int) != (((rd v1 v5.toNat).cell 0).int)) || (!((((rd v0 v5.toNat).cell 1).str).toList == (((rd v1 v5.toNat).cell 1).str).toList))))) || (inB v5 v0.length)) (gd ((!(!(((((rd v0 v5.toNat).cell 0).int) != (((rd v1 v5.toNat).cell 0).int)) || (!((((rd v0 v5.toNat).cell 1).str).toList == (((rd v1 v5.toNat).cell 1).str).toList))))) || (inB v5 v1.length)) (bif ((((((rd v0 v5.toNat).cell 0).int) != (((rd v1 v5.toNat).cell 0).int)) || (!((((rd v0 v5.toNat).cell 1).str).toList == (((rd v1 v5.toNat).cell 1).str).toList))) || ((((rd v0 v5.toNat).cell 2).int) != (((rd v1 v5.toNat).cell 2).int))) then some false else Gw02_alike.l58 k v0 v1 (IntKind.i64.wrap (v5 + 1)) κ1)))))) else κ1 ()
def Gw02_alike.f (a0 : List D) (a1 : List D) : Option Bool :=
  bif ((a0.length : Int) != (a1.length : Int)) then some false else Gw02_alike.l58 NN a0 a1 0 (fun y1 => some true)
def Gw02_alike.pk : List FK := [.sl 33, .sl 33]
def Gw02_alike.rk : List FK := [.bool]
def Gw02_alike.g : Tp Gw02_alike.pk → Option (Tp Gw02_alike.rk) := fun x => Gw02_alike.f x.1 x.2
def Gw02_alike.ρ : List (Entry (Tp Gw02_alike.rk)) := []
theorem Gw02_alike.hρ : ∀ e ∈ Gw02_alike.ρ, EntryOk Tryd.prog e :=
  ents_nil
def Gw02_alike.fr58 : Fr := [(0, .sl 33), (1, .sl 33), (5, .int .i64)]
def Gw02_alike.ou58 : Outs := [(1, [])]
def Gw02_alike.T58 (k : Nat) (x : Gw02_alike.fr58.T) (κ : Kp (Tp Gw02_alike.rk) Gw02_alike.ou58) : Option (Tp Gw02_alike.rk) := Gw02_alike.l58 k x.1 x.2.1 x.2.2 κ.1
def Gw02_alike.Λ0 : Cuts (Tp Gw02_alike.rk) := cutsOf []
def Gw02_alike.Λ : Cuts (Tp Gw02_alike.rk) := cutsOf [(58, cut Tryd.prog Gw02_alike.fr58 Gw02_alike.ou58 (Gw02_alike.T58 NN))]
theorem Gw02_alike.c58 (A : Ks) (w0 : World) : CutOk Tryd.prog ⟨Tryd.f25.ntmps, 0, A⟩ w0 (kRet Tryd.prog Tryd.f25.results.toList Gw02_alike.rk) (bodyOf Tryd.f25) 58 (cut Tryd.prog Gw02_alike.fr58 Gw02_alike.ou58 (Gw02_alike.T58 NN)) :=
  loop_ok Gw02_alike.hρ (Λ := Gw02_alike.Λ0) (cuts_nil) (by kernel_rfl) (D := 64) (b := loopOf Tryd.f25 58) (by kernel_rfl) (by kernel_rfl) NN (fun x κ => by kernel_rfl) (fun k x κ => by kernel_rfl)
theorem Gw02_alike.spec : Spec Tryd.prog 25 Gw02_alike.pk Gw02_alike.rk Gw02_alike.g :=
  spec_of_body (fn := Tryd.f25) (c := bodyOf Tryd.f25) (by kernel_rfl) (by kernel_rfl) (by kernel_rfl) (by kernel_rfl) (ρ := Gw02_alike.ρ) Gw02_alike.hρ (Λ := Gw02_alike.Λ) (fun A w0 => cuts_cons (Gw02_alike.c58 A w0) (cuts_nil)) (fun x => by kernel_rfl)

/-! ### 7 bluebell/bluebelllaw02.LexBlanks -/
def Gw02_LexBlanks.f (a0 : ByteArray) (a1 : Int) : Option Bool :=
  (Glex_Scan.f a0).bind fun r1 => bif ((((r1.2.1 != 0) || (decide (a1 < 0))) || (decide (a1 ≥ (r1.1.length : Int)))) || (decide ((IntKind.i64.wrap ((a0.size : Int) + 8)) > 40000))) then (Gw02_awake.f).bind fun r2 => some r2 else gd (inB a1 r1.1.length) (gd (Nat.blt a1.toNat r1.1.length) (gd (decide (0 ≤ (((rd r1.1 a1.toNat).cell 3).int)) && decide ((((rd r1.1 a1.toNat).cell 3).int) ≤ (a0.size : Int))) (gd (decide ((a0.extract 0 (((rd r1.1 a1.toNat).cell 3).int).toNat).size + str09202f2f2a200a.size ≤ maxS)) (gd (inB a1 r1.1.length) (gd (Nat.blt a1.toNat r1.1.length) (gd (decide (0 ≤ (((rd r1.1 a1.toNat).cell 3).int)) && decide ((((rd r1.1 a1.toNat).cell 3).int) ≤ (a0.size : Int))) (gd (decide (((a0.extract 0 (((rd r1.1 a1.toNat).cell 3).int).toNat) ++ str09202f2f2a200a).size + (a0.extract (((rd r1.1 a1.toNat).cell 3).int).toNat a0.size).size ≤ maxS)) ((Glex_Scan.f (((a0.extract 0 (((rd r1.1 a1.toNat).cell 3).int).toNat) ++ str09202f2f2a200a) ++ (a0.extract (((rd r1.1 a1.toNat).cell 3).int).toNat a0.size))).bind fun r3 => (bif (r3.2.1 == 0) then Gw02_alike.f r1.1 r3.1 else some false).bind fun r4 => (bif ((r3.2.1 == 0) && r4) then Gw02_awake.f else some false).bind fun r5 => some (((r3.2.1 == 0) && r4) && r5)))))))))
def Gw02_LexBlanks.pk : List FK := [.str, .int .i64]
def Gw02_LexBlanks.rk : List FK := [.bool]
def Gw02_LexBlanks.g : Tp Gw02_LexBlanks.pk → Option (Tp Gw02_LexBlanks.rk) := fun x => Gw02_LexBlanks.f x.1 x.2
def Gw02_LexBlanks.ρ : List (Entry (Tp Gw02_LexBlanks.rk)) := [entry _ Tryd.prog 21 Glex_Scan.pk Glex_Scan.rk Glex_Scan.g, entry _ Tryd.prog 24 Gw02_awake.pk Gw02_awake.rk Gw02_awake.g, entry _ Tryd.prog 25 Gw02_alike.pk Gw02_alike.rk Gw02_alike.g]
theorem Gw02_LexBlanks.hρ : ∀ e ∈ Gw02_LexBlanks.ρ, EntryOk Tryd.prog e :=
  ents_cons (ent (fn := Tryd.f21) Glex_Scan.spec (by kernel_rfl) (by kernel_rfl) (by kernel_rfl) (by kernel_rfl)) (ents_cons (ent (fn := Tryd.f24) Gw02_awake.spec (by kernel_rfl) (by kernel_rfl) (by kernel_rfl) (by kernel_rfl)) (ents_cons (ent (fn := Tryd.f25) Gw02_alike.spec (by kernel_rfl) (by kernel_rfl) (by kernel_rfl) (by kernel_rfl)) (ents_nil)))
def Gw02_LexBlanks.Λ : Cuts (Tp Gw02_LexBlanks.rk) := cutsOf []
theorem Gw02_LexBlanks.spec : Spec Tryd.prog 7 Gw02_LexBlanks.pk Gw02_LexBlanks.rk Gw02_LexBlanks.g :=
  spec_of_body (fn := Tryd.f7) (c := bodyOf Tryd.f7) (by kernel_rfl) (by kernel_rfl) (by kernel_rfl) (by kernel_rfl) (ρ := Gw02_LexBlanks.ρ) Gw02_LexBlanks.hρ (Λ := Gw02_LexBlanks.Λ) (fun A w0 => cuts_nil) (fun x => by kernel_rfl)

/-! ### 8 bluebell/bluebelllaw02.LexFirst -/
def Gw02_LexFirst.f (a0 : ByteArray) (a1 : ByteArray) : Option Bool :=
  bif decide ((IntKind.i64.wrap ((a0.size : Int) + (a1.size : Int))) ≥ 40000) then (Gw02_awake.f).bind fun r1 => some r1 else (Glex_Scan.f a0).bind fun r2 => gd (decide (a0.size + str0a.size ≤ maxS)) (gd (decide ((a0 ++ str0a).size + a1.size ≤ maxS)) ((Glex_Scan.f ((a0 ++ str0a) ++ a1)).bind fun r3 => bif ((r2.2.1 == 0) || ((r2.2.1 == 2) && (r2.2.2 == (a0.size : Int)))) then (Gw02_awake.f).bind fun r4 => some r4 else (bif ((r2.2.1 == r3.2.1) && (r2.2.2 == r3.2.2)) then Gw02_awake.f else some false).bind fun r5 => some (((r2.2.1 == r3.2.1) && (r2.2.2 == r3.2.2)) && r5)))
def Gw02_LexFirst.pk : List FK := [.str, .str]
def Gw02_LexFirst.rk : List FK := [.bool]
def Gw02_LexFirst.g : Tp Gw02_LexFirst.pk → Option (Tp Gw02_LexFirst.rk) := fun x => Gw02_LexFirst.f x.1 x.2
def Gw02_LexFirst.ρ : List (Entry (Tp Gw02_LexFirst.rk)) := [entry _ Tryd.prog 24 Gw02_awake.pk Gw02_awake.rk Gw02_awake.g, entry _ Tryd.prog 21 Glex_Scan.pk Glex_Scan.rk Glex_Scan.g]
theorem Gw02_LexFirst.hρ : ∀ e ∈ Gw02_LexFirst.ρ, EntryOk Tryd.prog e :=
  ents_cons (ent (fn := Tryd.f24) Gw02_awake.spec (by kernel_rfl) (by kernel_rfl) (by kernel_rfl) (by kernel_rfl)) (ents_cons (ent (fn := Tryd.f21) Glex_Scan.spec (by kernel_rfl) (by kernel_rfl) (by kernel_rfl) (by kernel_rfl)) (ents_nil))
def Gw02_LexFirst.Λ : Cuts (Tp Gw02_LexFirst.rk) := cutsOf []
theorem Gw02_LexFirst.spec : Spec Tryd.prog 8 Gw02_LexFirst.pk Gw02_LexFirst.rk Gw02_LexFirst.g :=
  spec_of_body (fn := Tryd.f8) (c := bodyOf Tryd.f8) (by kernel_rfl) (by kernel_rfl) (by kernel_rfl) (by kernel_rfl) (ρ := Gw02_LexFirst.ρ) Gw02_LexFirst.hρ (Λ := Gw02_LexFirst.Λ) (fun A w0 => cuts_nil) (fun x => by kernel_rfl)

/-! ### 27 bluebell/bluebellref02.Quote -/
def Gr02_Quote.l58 : Nat → ByteArray → ByteArray → Int → ((ByteArray × ByteArray) → Option (ByteArray × Int)) → Option (ByteArray × Int)
  | 0, _, _, _, _ => none
  | k + 1, v0, v4, v5, κ1 =>
    bif decide (v5 < (v0.size : Int)) then gd (inB v5 v0.size) (bif ((bt v0 v5.toNat) == 10) then gd (decide (v4.size + str2a6e.size ≤ maxS)) (Gr02_Quote.l58 k v0 (v4 ++ str2a6e) (IntKind.i64.wrap (v5 + 1)) κ1) else bif ((bt v0 v5.toNat) == 9) then gd (decide (v4.size + str2a74.size ≤ maxS)) (Gr02_Quote.l58 k v0 (v4 ++ str2a74) (IntKind.i64.wrap (v5 + 1)) κ1) else bif (((bt v0 v5.toNat) == 42) || ((bt v0 v5.toNat) == 34)) then gd (decide (0 ≤ v5) && (decide (v5 ≤ (IntKind.i64.wrap (v5 + 1))) && decide ((IntKind.i64.wrap (v5 + 1)) ≤ (v0.size : Int)))) (gd (decide (str2a.size + (v0.extract v5.toNat (IntKind.i64.wrap (v5 + 1)).toNat).size ≤ maxS)) (gd (decide (v4.size + (str2a ++ (v0.extract v5.toNat (IntKind.i64.wrap (v5 + 1)).toNat)).size ≤ maxS)) (Gr02_Quote.l58 k v0 (v4 ++ (str2a ++ (v0.extract v5.toNat (IntKind.i64.wrap (v5 + 1)).toNat))) (IntKind.i64.wrap (v5 + 1)) κ1))) else bif ((decide ((bt v0 v5.toNat) < 32)) || (decide ((bt v0 v5.toNat) > 126))) then some (strNil, 3) else gd (decide (0 ≤ v5) && (decide (v5 ≤ (IntKind.i64.wrap (v5 + 1))) && decide ((IntKind.i64.wrap (v5 + 1)) ≤ (v0.size : Int)))) (gd (decide (v4.size + (v0.extract v5.toNat (IntKind.i64.wrap (v5 + 1)).toNat).size ≤ maxS)) (Gr02_Quote.l58 k v0 (v4 ++ (v0.extract v5.toNat (IntKind.i64.wrap (v5 + 1)).toNat)) (IntKind.i64.wrap (v5 + 1)) κ1))) else κ1 (v0, v4)
def Gr02_Quote.f (a0 : ByteArray) : Option (ByteArray × Int) :=
  Gr02_Quote.l58 NN a0 str22 0 (fun y1 => bif decide ((y1.1.size : Int) > 100) then some (strNil, 2) else gd (decide (y1.2.size + str22.size ≤ maxS)) (some ((y1.2 ++ str22), 0)))
def Gr02_Quote.pk : List FK := [.str]
def Gr02_Quote.rk : List FK := [.str, .int .i64]
def Gr02_Quote.g : Tp Gr02_Quote.pk → Option (Tp Gr02_Quote.rk) := fun x => Gr02_Quote.f x
def Gr02_Quote.ρ : List (Entry (Tp Gr02_Quote.rk)) := []
theorem Gr02_Quote.hρ : ∀ e ∈ Gr02_Quote.ρ, EntryOk Tryd.prog e :=
  ents_nil
def Gr02_Quote.fr58 : Fr := [(0, .str), (4, .str), (5, .int .i64)]
def Gr02_Quote.ou58 : Outs := [(1, [(0, .str), (4, .str)])]
def Gr02_Quote.T58 (k : Nat) (x : Gr02_Quote.fr58.T) (κ : Kp (Tp Gr02_Quote.rk) Gr02_Quote.ou58) : Option (Tp Gr02_Quote.rk) := Gr02_Quote.l58 k x.1 x.2.1 x.2.2 κ.1
def Gr02_Quote.Λ0 : Cuts (Tp Gr02_Quote.rk) := cutsOf []
def Gr02_Quote.Λ : Cuts (Tp Gr02_Quote.rk) := cutsOf [(58, cut Tryd.prog Gr02_Quote.fr58 Gr02_Quote.ou58 (Gr02_Quote.T58 NN))]
theorem Gr02_Quote.c58 (A : Ks) (w0 : World) : CutOk Tryd.prog ⟨Tryd.f27.ntmps, 0, A⟩ w0 (kRet Tryd.prog Tryd.f27.results.toList Gr02_Quote.rk) (bodyOf Tryd.f27) 58 (cut Tryd.prog Gr02_Quote.fr58 Gr02_Quote.ou58 (Gr02_Quote.T58 NN)) :=
  loop_ok Gr02_Quote.hρ (Λ := Gr02_Quote.Λ0) (cuts_nil) (by kernel_rfl) (D := 64) (b := loopOf Tryd.f27 58) (by kernel_rfl) (by kernel_rfl) NN (fun x κ => by kernel_rfl) (fun k x κ => by kernel_rfl)
theorem Gr02_Quote.spec : Spec Tryd.prog 27 Gr02_Quote.pk Gr02_Quote.rk Gr02_Quote.g :=
  spec_of_body (fn := Tryd.f27) (c := bodyOf Tryd.f27) (by kernel_rfl) (by kernel_rfl) (by kernel_rfl) (by kernel_rfl) (ρ := Gr02_Quote.ρ) Gr02_Quote.hρ (Λ := Gr02_Quote.Λ) (fun A w0 => cuts_cons (Gr02_Quote.c58 A w0) (cuts_nil)) (fun x => by kernel_rfl)

/-! ### 28 bluebell/lex.Number -/
def Glex_Number.f (a0 : Int) : Option (ByteArray × Int) :=
  bif ((decide (a0 < (-2147483648))) || (decide (a0 > 2147483647))) then some (strNil, 1) else bif decide (a0 < 0) then (Gstrconv_FormatInt.f (IntKind.i64.wrap (a0 + 4294967296)) 16).bind fun r1 => gd (decide (str23.size + r1.size ≤ maxS)) (some ((str23 ++ r1), 0)) else (Gstrconv_Itoa.f a0).bind fun r2 => some (r2, 0)
def Glex_Number.pk : List FK := [.int .i64]
def Glex_Number.rk : List FK := [.str, .int .i64]
def Glex_Number.g : Tp Glex_Number.pk → Option (Tp Glex_Number.rk) := fun x => Glex_Number.f x
def Glex_Number.ρ : List (Entry (Tp Glex_Number.rk)) := [entry _ Tryd.prog 48 Gstrconv_FormatInt.pk Gstrconv_FormatInt.rk Gstrconv_FormatInt.g, entry _ Tryd.prog 49 Gstrconv_Itoa.pk Gstrconv_Itoa.rk Gstrconv_Itoa.g]
theorem Glex_Number.hρ : ∀ e ∈ Glex_Number.ρ, EntryOk Tryd.prog e :=
  ents_cons (ent (fn := Tryd.f48) Gstrconv_FormatInt.spec (by kernel_rfl) (by kernel_rfl) (by kernel_rfl) (by kernel_rfl)) (ents_cons (ent (fn := Tryd.f49) Gstrconv_Itoa.spec (by kernel_rfl) (by kernel_rfl) (by kernel_rfl) (by kernel_rfl)) (ents_nil))
def Glex_Number.Λ : Cuts (Tp Glex_Number.rk) := cutsOf []
theorem Glex_Number.spec : Spec Tryd.prog 28 Glex_Number.pk Glex_Number.rk Glex_Number.g :=
  spec_of_body (fn := Tryd.f28) (c := bodyOf Tryd.f28) (by kernel_rfl) (by kernel_rfl) (by kernel_rfl) (by kernel_rfl) (ρ := Glex_Number.ρ) Glex_Number.hρ (Λ := Glex_Number.Λ) (fun A w0 => cuts_nil) (fun x => by kernel_rfl)

/-! ### 50 bluebell/bluebellref02.digits -/
def Gr02_digits.l28 : Nat → Int → Int → Int → ByteArray → (ByteArray → Option ByteArray) → Option ByteArray
  | 0, _, _, _, _, _ => none
  | k + 1, v0, v1, v2, v7, κ1 =>
    bif ((decide (v0 > 0)) || (decide ((v7.size : Int) < v2))) then gd (!(v1 == 0)) (gd (inB (v0.tmod v1) str30313233343536373839616263646566.size) (gd (decide ((bstr ([.i (bt str30313233343536373839616263646566 (v0.tmod v1).toNat)] : List D)).size + v7.size ≤ maxS)) (gd (!(v1 == 0)) (Gr02_digits.l28 k (IntKind.i64.wrap (v0.tdiv v1)) v1 v2 ((bstr ([.i (bt str30313233343536373839616263646566 (v0.tmod v1).toNat)] : List D)) ++ v7) κ1)))) else κ1 v7
def Gr02_digits.f (a0 : Int) (a1 : Int) (a2 : Int) : Option ByteArray :=
  Gr02_digits.l28 NN a0 a1 a2 strNil (fun y1 => some y1)
def Gr02_digits.pk : List FK := [.int .i64, .int .i64, .int .i64]
def Gr02_digits.rk : List FK := [.str]
def Gr02_digits.g : Tp Gr02_digits.pk → Option (Tp Gr02_digits.rk) := fun x => Gr02_digits.f x.1 x.2.1 x.2.2
def Gr02_digits.ρ : List (Entry (Tp Gr02_digits.rk)) := []
theorem Gr02_digits.hρ : ∀ e ∈ Gr02_digits.ρ, EntryOk Tryd.prog e :=
  ents_nil
def Gr02_digits.fr28 : Fr := [(0, .int .i64), (1, .int .i64), (2, .int .i64), (7, .str)]
def Gr02_digits.ou28 : Outs := [(1, [(7, .str)])]
def Gr02_digits.T28 (k : Nat) (x : Gr02_digits.fr28.T) (κ : Kp (Tp Gr02_digits.rk) Gr02_digits.ou28) : Option (Tp Gr02_digits.rk) := Gr02_digits.l28 k x.1 x.2.1 x.2.2.1 x.2.2.2 κ.1
def Gr02_digits.Λ0 : Cuts (Tp Gr02_digits.rk) := cutsOf []
def Gr02_digits.Λ : Cuts (Tp Gr02_digits.rk) := cutsOf [(28, cut Tryd.prog Gr02_digits.fr28 Gr02_digits.ou28 (Gr02_digits.T28 NN))]
theorem Gr02_digits.c28 (A : Ks) (w0 : World) : CutOk Tryd.prog ⟨Tryd.f50.ntmps, 0, A⟩ w0 (kRet Tryd.prog Tryd.f50.results.toList Gr02_digits.rk) (bodyOf Tryd.f50) 28 (cut Tryd.prog Gr02_digits.fr28 Gr02_digits.ou28 (Gr02_digits.T28 NN)) :=
  loop_ok Gr02_digits.hρ (Λ := Gr02_digits.Λ0) (cuts_nil) (by kernel_rfl) (D := 64) (b := loopOf Tryd.f50 28) (by kernel_rfl) (by kernel_rfl) NN (fun x κ => by kernel_rfl) (fun k x κ => by kernel_rfl)
theorem Gr02_digits.spec : Spec Tryd.prog 50 Gr02_digits.pk Gr02_digits.rk Gr02_digits.g :=
  spec_of_body (fn := Tryd.f50) (c := bodyOf Tryd.f50) (by kernel_rfl) (by kernel_rfl) (by kernel_rfl) (by kernel_rfl) (ρ := Gr02_digits.ρ) Gr02_digits.hρ (Λ := Gr02_digits.Λ) (fun A w0 => cuts_cons (Gr02_digits.c28 A w0) (cuts_nil)) (fun x => by kernel_rfl)

/-! ### 29 bluebell/bluebellref02.Number -/
def Gr02_Number.f (a0 : Int) : Option (ByteArray × Int) :=
  bif ((decide (a0 < (-2147483648))) || (decide (a0 > 2147483647))) then some (strNil, 1) else bif decide (a0 < 0) then (Gr02_digits.f (IntKind.i64.wrap (a0 + 4294967296)) 16 8).bind fun r1 => gd (decide (str23.size + r1.size ≤ maxS)) (some ((str23 ++ r1), 0)) else (Gr02_digits.f a0 10 1).bind fun r2 => some (r2, 0)
def Gr02_Number.pk : List FK := [.int .i64]
def Gr02_Number.rk : List FK := [.str, .int .i64]
def Gr02_Number.g : Tp Gr02_Number.pk → Option (Tp Gr02_Number.rk) := fun x => Gr02_Number.f x
def Gr02_Number.ρ : List (Entry (Tp Gr02_Number.rk)) := [entry _ Tryd.prog 50 Gr02_digits.pk Gr02_digits.rk Gr02_digits.g]
theorem Gr02_Number.hρ : ∀ e ∈ Gr02_Number.ρ, EntryOk Tryd.prog e :=
  ents_cons (ent (fn := Tryd.f50) Gr02_digits.spec (by kernel_rfl) (by kernel_rfl) (by kernel_rfl) (by kernel_rfl)) (ents_nil)
def Gr02_Number.Λ : Cuts (Tp Gr02_Number.rk) := cutsOf []
theorem Gr02_Number.spec : Spec Tryd.prog 29 Gr02_Number.pk Gr02_Number.rk Gr02_Number.g :=
  spec_of_body (fn := Tryd.f29) (c := bodyOf Tryd.f29) (by kernel_rfl) (by kernel_rfl) (by kernel_rfl) (by kernel_rfl) (ρ := Gr02_Number.ρ) Gr02_Number.hρ (Λ := Gr02_Number.Λ) (fun A w0 => cuts_nil) (fun x => by kernel_rfl)

/-! ### 9 bluebell/bluebelllaw02.LexQuotes -/
def Gw02_LexQuotes.f (a0 : ByteArray) (a1 : Int) : Option Bool :=
  (Glex_Quote.f a0).bind fun r1 => (Gr02_Quote.f a0).bind fun r2 => (Glex_Number.f a1).bind fun r3 => (Gr02_Number.f a1).bind fun r4 => (bif ((((r1.1.toList == r2.1.toList) && (r1.2 == r2.2)) && (r3.1.toList == r4.1.toList)) && (r3.2 == r4.2)) then Gw02_awake.f else some false).bind fun r5 => some (((((r1.1.toList == r2.1.toList) && (r1.2 == r2.2)) && (r3.1.toList == r4.1.toList)) && (r3.2 == r4.2)) && r5)
def Gw02_LexQuotes.pk : List FK := [.str, .int .i64]
def Gw02_LexQuotes.rk : List FK := [.bool]
def Gw02_LexQuotes.g : Tp Gw02_LexQuotes.pk → Option (Tp Gw02_LexQuotes.rk) := fun x => Gw02_LexQuotes.f x.1 x.2
def Gw02_LexQuotes.ρ : List (Entry (Tp Gw02_LexQuotes.rk)) := [entry _ Tryd.prog 26 Glex_Quote.pk Glex_Quote.rk Glex_Quote.g, entry _ Tryd.prog 27 Gr02_Quote.pk Gr02_Quote.rk Gr02_Quote.g, entry _ Tryd.prog 28 Glex_Number.pk Glex_Number.rk Glex_Number.g, entry _ Tryd.prog 29 Gr02_Number.pk Gr02_Number.rk Gr02_Number.g, entry _ Tryd.prog 24 Gw02_awake.pk Gw02_awake.rk Gw02_awake.g]
theorem Gw02_LexQuotes.hρ : ∀ e ∈ Gw02_LexQuotes.ρ, EntryOk Tryd.prog e :=
  ents_cons (ent (fn := Tryd.f26) Glex_Quote.spec (by kernel_rfl) (by kernel_rfl) (by kernel_rfl) (by kernel_rfl)) (ents_cons (ent (fn := Tryd.f27) Gr02_Quote.spec (by kernel_rfl) (by kernel_rfl) (by kernel_rfl) (by kernel_rfl)) (ents_cons (ent (fn := Tryd.f28) Glex_Number.spec (by kernel_rfl) (by kernel_rfl) (by kernel_rfl) (by kernel_rfl)) (ents_cons (ent (fn := Tryd.f29) Gr02_Number.spec (by kernel_rfl) (by kernel_rfl) (by kernel_rfl) (by kernel_rfl)) (ents_cons (ent (fn := Tryd.f24) Gw02_awake.spec (by kernel_rfl) (by kernel_rfl) (by kernel_rfl) (by kernel_rfl)) (ents_nil)))))
def Gw02_LexQuotes.Λ : Cuts (Tp Gw02_LexQuotes.rk) := cutsOf []
theorem Gw02_LexQuotes.spec : Spec Tryd.prog 9 Gw02_LexQuotes.pk Gw02_LexQuotes.rk Gw02_LexQuotes.g :=
  spec_of_body (fn := Tryd.f9) (c := bodyOf Tryd.f9) (by kernel_rfl) (by kernel_rfl) (by kernel_rfl) (by kernel_rfl) (ρ := Gw02_LexQuotes.ρ) Gw02_LexQuotes.hρ (Λ := Gw02_LexQuotes.Λ) (fun A w0 => cuts_nil) (fun x => by kernel_rfl)

/-! ### 10 bluebell/bluebelllaw02.LexOne -/
def Gw02_LexOne.p63 (v6 : Int) (v11 : Int) : Option Bool :=
  (bif ((((v6 == 0) || (v6 == 3)) || (v6 == 2)) && ((v11 == 0) || (v11 == 1))) then Gw02_awake.f else some false).bind fun r5 => some (((((v6 == 0) || (v6 == 3)) || (v6 == 2)) && ((v11 == 0) || (v11 == 1))) && r5)
def Gw02_LexOne.p15 (v1 : Int) (v6 : Int) : Option Bool :=
  (Glex_Number.f v1).bind fun r3 => bif (r3.2 == 0) then (Glex_Scan.f r3.1).bind fun r4 => gd ((!(!((r4.2.1 != 0) || ((r4.1.length : Int) != 2)))) || (inB 0 r4.1.length)) (gd ((!(!((r4.2.1 != 0) || ((r4.1.length : Int) != 2)))) || (Nat.blt 0 r4.1.length)) (bif (((r4.2.1 != 0) || ((r4.1.length : Int) != 2)) || (!(((((rd r4.1 0).cell 0).int) == 2) && (((((rd r4.1 0).cell 1).str).toList == ByteArray.empty.toList) && (((((rd r4.1 0).cell 2).int) == v1) && (((((rd r4.1 0).cell 3).int) == 0) && true)))))) then some false else Gw02_LexOne.p63 v6 r3.2)) else Gw02_LexOne.p63 v6 r3.2
def Gw02_LexOne.f (a0 : ByteArray) (a1 : Int) : Option Bool :=
  (Glex_Quote.f a0).bind fun r1 => bif (r1.2 == 0) then (Glex_Scan.f r1.1).bind fun r2 => gd ((!(!((r2.2.1 != 0) || ((r2.1.length : Int) != 2)))) || (inB 0 r2.1.length)) (gd ((!(!((r2.2.1 != 0) || ((r2.1.length : Int) != 2)))) || (Nat.blt 0 r2.1.length)) (bif (((r2.2.1 != 0) || ((r2.1.length : Int) != 2)) || (!(((((rd r2.1 0).cell 0).int) == 3) && (((((rd r2.1 0).cell 1).str).toList == a0.toList) && (((((rd r2.1 0).cell 2).int) == 0) && (((((rd r2.1 0).cell 3).int) == 0) && true)))))) then some false else Gw02_LexOne.p15 a1 r1.2)) else Gw02_LexOne.p15 a1 r1.2
def Gw02_LexOne.pk : List FK := [.str, .int .i64]
def Gw02_LexOne.rk : List FK := [.bool]
def Gw02_LexOne.g : Tp Gw02_LexOne.pk → Option (Tp Gw02_LexOne.rk) := fun x => Gw02_LexOne.f x.1 x.2
def Gw02_LexOne.ρ : List (Entry (Tp Gw02_LexOne.rk)) := [entry _ Tryd.prog 26 Glex_Quote.pk Glex_Quote.rk Glex_Quote.g, entry _ Tryd.prog 21 Glex_Scan.pk Glex_Scan.rk Glex_Scan.g, entry _ Tryd.prog 28 Glex_Number.pk Glex_Number.rk Glex_Number.g, entry _ Tryd.prog 24 Gw02_awake.pk Gw02_awake.rk Gw02_awake.g]
theorem Gw02_LexOne.hρ : ∀ e ∈ Gw02_LexOne.ρ, EntryOk Tryd.prog e :=
  ents_cons (ent (fn := Tryd.f26) Glex_Quote.spec (by kernel_rfl) (by kernel_rfl) (by kernel_rfl) (by kernel_rfl)) (ents_cons (ent (fn := Tryd.f21) Glex_Scan.spec (by kernel_rfl) (by kernel_rfl) (by kernel_rfl) (by kernel_rfl)) (ents_cons (ent (fn := Tryd.f28) Glex_Number.spec (by kernel_rfl) (by kernel_rfl) (by kernel_rfl) (by kernel_rfl)) (ents_cons (ent (fn := Tryd.f24) Gw02_awake.spec (by kernel_rfl) (by kernel_rfl) (by kernel_rfl) (by kernel_rfl)) (ents_nil))))
def Gw02_LexOne.fr63 : Fr := [(6, .int .i64), (11, .int .i64)]
def Gw02_LexOne.ou63 : Outs := []
def Gw02_LexOne.T63 (x : Gw02_LexOne.fr63.T) (κ : Kp (Tp Gw02_LexOne.rk) Gw02_LexOne.ou63) : Option (Tp Gw02_LexOne.rk) := Gw02_LexOne.p63 x.1 x.2
def Gw02_LexOne.fr15 : Fr := [(1, .int .i64), (6, .int .i64)]
def Gw02_LexOne.ou15 : Outs := []
def Gw02_LexOne.T15 (x : Gw02_LexOne.fr15.T) (κ : Kp (Tp Gw02_LexOne.rk) Gw02_LexOne.ou15) : Option (Tp Gw02_LexOne.rk) := Gw02_LexOne.p15 x.1 x.2
def Gw02_LexOne.Λ0 : Cuts (Tp Gw02_LexOne.rk) := cutsOf []
def Gw02_LexOne.Λ1 : Cuts (Tp Gw02_LexOne.rk) := cutsOf [(63, cut Tryd.prog Gw02_LexOne.fr63 Gw02_LexOne.ou63 (Gw02_LexOne.T63))]
def Gw02_LexOne.Λ : Cuts (Tp Gw02_LexOne.rk) := cutsOf [(15, cut Tryd.prog Gw02_LexOne.fr15 Gw02_LexOne.ou15 (Gw02_LexOne.T15)), (63, cut Tryd.prog Gw02_LexOne.fr63 Gw02_LexOne.ou63 (Gw02_LexOne.T63))]
theorem Gw02_LexOne.c63 (A : Ks) (w0 : World) : CutOk Tryd.prog ⟨Tryd.f10.ntmps, 0, A⟩ w0 (kRet Tryd.prog Tryd.f10.results.toList Gw02_LexOne.rk) (bodyOf Tryd.f10) 63 (cut Tryd.prog Gw02_LexOne.fr63 Gw02_LexOne.ou63 (Gw02_LexOne.T63)) :=
  cut_ok Gw02_LexOne.hρ (Λ := Gw02_LexOne.Λ0) (cuts_nil) (by kernel_rfl) (by kernel_rfl) (D := 64) (c := nodeOf Tryd.f10 63) (by kernel_rfl) (by kernel_rfl) (fun x κ => by kernel_rfl)
theorem Gw02_LexOne.c15 (A : Ks) (w0 : World) : CutOk Tryd.prog ⟨Tryd.f10.ntmps, 0, A⟩ w0 (kRet Tryd.prog Tryd.f10.results.toList Gw02_LexOne.rk) (bodyOf Tryd.f10) 15 (cut Tryd.prog Gw02_LexOne.fr15 Gw02_LexOne.ou15 (Gw02_LexOne.T15)) :=
  cut_ok Gw02_LexOne.hρ (Λ := Gw02_LexOne.Λ1) (cuts_cons (Gw02_LexOne.c63 A w0) (cuts_nil)) (by kernel_rfl) (by kernel_rfl) (D := 64) (c := nodeOf Tryd.f10 15) (by kernel_rfl) (by kernel_rfl) (fun x κ => by kernel_rfl)
theorem Gw02_LexOne.spec : Spec Tryd.prog 10 Gw02_LexOne.pk Gw02_LexOne.rk Gw02_LexOne.g :=
  spec_of_body (fn := Tryd.f10) (c := bodyOf Tryd.f10) (by kernel_rfl) (by kernel_rfl) (by kernel_rfl) (by kernel_rfl) (ρ := Gw02_LexOne.ρ) Gw02_LexOne.hρ (Λ := Gw02_LexOne.Λ) (fun A w0 => cuts_cons (Gw02_LexOne.c15 A w0) (cuts_cons (Gw02_LexOne.c63 A w0) (cuts_nil))) (fun x => by kernel_rfl)

/-! ### 30 bluebell/lex.Line -/
def Glex_Line.f (a0 : ByteArray) (a1 : Int) : Option (Int × Int × Int) :=
  bif ((decide (a1 < 0)) || (decide (a1 > (a0.size : Int)))) then some (0, 0, 1) else gd (decide (0 ≤ a1) && decide (a1 ≤ (a0.size : Int))) ((Gstrings_Count.f (a0.extract 0 a1.toNat) str0a).bind fun r1 => (Gstrings_LastIndexByte.f (a0.extract 0 a1.toNat) 10).bind fun r2 => some ((IntKind.i64.wrap (r1 + 1)), (IntKind.i64.wrap ((IntKind.i64.wrap (a1 - r2)) - 1)), 0))
def Glex_Line.pk : List FK := [.str, .int .i64]
def Glex_Line.rk : List FK := [.int .i64, .int .i64, .int .i64]
def Glex_Line.g : Tp Glex_Line.pk → Option (Tp Glex_Line.rk) := fun x => Glex_Line.f x.1 x.2
def Glex_Line.ρ : List (Entry (Tp Glex_Line.rk)) := [entry _ Tryd.prog 51 Gstrings_Count.pk Gstrings_Count.rk Gstrings_Count.g, entry _ Tryd.prog 52 Gstrings_LastIndexByte.pk Gstrings_LastIndexByte.rk Gstrings_LastIndexByte.g]
theorem Glex_Line.hρ : ∀ e ∈ Glex_Line.ρ, EntryOk Tryd.prog e :=
  ents_cons (ent (fn := Tryd.f51) Gstrings_Count.spec (by kernel_rfl) (by kernel_rfl) (by kernel_rfl) (by kernel_rfl)) (ents_cons (ent (fn := Tryd.f52) Gstrings_LastIndexByte.spec (by kernel_rfl) (by kernel_rfl) (by kernel_rfl) (by kernel_rfl)) (ents_nil))
def Glex_Line.Λ : Cuts (Tp Glex_Line.rk) := cutsOf []
theorem Glex_Line.spec : Spec Tryd.prog 30 Glex_Line.pk Glex_Line.rk Glex_Line.g :=
  spec_of_body (fn := Tryd.f30) (c := bodyOf Tryd.f30) (by kernel_rfl) (by kernel_rfl) (by kernel_rfl) (by kernel_rfl) (ρ := Glex_Line.ρ) Glex_Line.hρ (Λ := Glex_Line.Λ) (fun A w0 => cuts_nil) (fun x => by kernel_rfl)

/-! ### 31 bluebell/bluebellref02.Line -/
def Gr02_Line.l122 : Nat → ByteArray → Int → Int → Int → Int → ((Int × Int) → Option (Int × Int × Int)) → Option (Int × Int × Int)
  | 0, _, _, _, _, _, _ => none
  | k + 1, v0, v1, v4, v5, v7, κ1 =>
    bif decide (v7 < v1) then gd (inB v7 v0.size) (bif ((bt v0 v7.toNat) == 10) then Gr02_Line.l122 k v0 v1 (IntKind.i64.wrap (v4 + 1)) 0 (IntKind.i64.wrap (v7 + 1)) κ1 else Gr02_Line.l122 k v0 v1 v4 (IntKind.i64.wrap (v5 + 1)) (IntKind.i64.wrap (v7 + 1)) κ1) else κ1 (v4, v5)
def Gr02_Line.f (a0 : ByteArray) (a1 : Int) : Option (Int × Int × Int) :=
  bif ((decide (a1 < 0)) || (decide (a1 > (a0.size : Int)))) then some (0, 0, 1) else Gr02_Line.l122 NN a0 a1 1 0 0 (fun y1 => some (y1.1, y1.2, 0))
def Gr02_Line.pk : List FK := [.str, .int .i64]
def Gr02_Line.rk : List FK := [.int .i64, .int .i64, .int .i64]
def Gr02_Line.g : Tp Gr02_Line.pk → Option (Tp Gr02_Line.rk) := fun x => Gr02_Line.f x.1 x.2
def Gr02_Line.ρ : List (Entry (Tp Gr02_Line.rk)) := []
theorem Gr02_Line.hρ : ∀ e ∈ Gr02_Line.ρ, EntryOk Tryd.prog e :=
  ents_nil
def Gr02_Line.fr122 : Fr := [(0, .str), (1, .int .i64), (4, .int .i64), (5, .int .i64), (7, .int .i64)]
def Gr02_Line.ou122 : Outs := [(1, [(4, .int .i64), (5, .int .i64)])]
def Gr02_Line.T122 (k : Nat) (x : Gr02_Line.fr122.T) (κ : Kp (Tp Gr02_Line.rk) Gr02_Line.ou122) : Option (Tp Gr02_Line.rk) := Gr02_Line.l122 k x.1 x.2.1 x.2.2.1 x.2.2.2.1 x.2.2.2.2 κ.1
def Gr02_Line.Λ0 : Cuts (Tp Gr02_Line.rk) := cutsOf []
def Gr02_Line.Λ : Cuts (Tp Gr02_Line.rk) := cutsOf [(122, cut Tryd.prog Gr02_Line.fr122 Gr02_Line.ou122 (Gr02_Line.T122 NN))]
theorem Gr02_Line.c122 (A : Ks) (w0 : World) : CutOk Tryd.prog ⟨Tryd.f31.ntmps, 0, A⟩ w0 (kRet Tryd.prog Tryd.f31.results.toList Gr02_Line.rk) (bodyOf Tryd.f31) 122 (cut Tryd.prog Gr02_Line.fr122 Gr02_Line.ou122 (Gr02_Line.T122 NN)) :=
  loop_ok Gr02_Line.hρ (Λ := Gr02_Line.Λ0) (cuts_nil) (by kernel_rfl) (D := 64) (b := loopOf Tryd.f31 122) (by kernel_rfl) (by kernel_rfl) NN (fun x κ => by kernel_rfl) (fun k x κ => by kernel_rfl)
theorem Gr02_Line.spec : Spec Tryd.prog 31 Gr02_Line.pk Gr02_Line.rk Gr02_Line.g :=
  spec_of_body (fn := Tryd.f31) (c := bodyOf Tryd.f31) (by kernel_rfl) (by kernel_rfl) (by kernel_rfl) (by kernel_rfl) (ρ := Gr02_Line.ρ) Gr02_Line.hρ (Λ := Gr02_Line.Λ) (fun A w0 => cuts_cons (Gr02_Line.c122 A w0) (cuts_nil)) (fun x => by kernel_rfl)

/-! ### 11 bluebell/bluebelllaw02.LexLines -/
def Gw02_LexLines.f (a0 : ByteArray) (a1 : Int) : Option Bool :=
  (Glex_Line.f a0 a1).bind fun r1 => (Gr02_Line.f a0 a1).bind fun r2 => (bif (((r1.1 == r2.1) && (r1.2.1 == r2.2.1)) && (r1.2.2 == r2.2.2)) then Gw02_awake.f else some false).bind fun r3 => some ((((r1.1 == r2.1) && (r1.2.1 == r2.2.1)) && (r1.2.2 == r2.2.2)) && r3)
def Gw02_LexLines.pk : List FK := [.str, .int .i64]
def Gw02_LexLines.rk : List FK := [.bool]
def Gw02_LexLines.g : Tp Gw02_LexLines.pk → Option (Tp Gw02_LexLines.rk) := fun x => Gw02_LexLines.f x.1 x.2
def Gw02_LexLines.ρ : List (Entry (Tp Gw02_LexLines.rk)) := [entry _ Tryd.prog 30 Glex_Line.pk Glex_Line.rk Glex_Line.g, entry _ Tryd.prog 31 Gr02_Line.pk Gr02_Line.rk Gr02_Line.g, entry _ Tryd.prog 24 Gw02_awake.pk Gw02_awake.rk Gw02_awake.g]
theorem Gw02_LexLines.hρ : ∀ e ∈ Gw02_LexLines.ρ, EntryOk Tryd.prog e :=
  ents_cons (ent (fn := Tryd.f30) Glex_Line.spec (by kernel_rfl) (by kernel_rfl) (by kernel_rfl) (by kernel_rfl)) (ents_cons (ent (fn := Tryd.f31) Gr02_Line.spec (by kernel_rfl) (by kernel_rfl) (by kernel_rfl) (by kernel_rfl)) (ents_cons (ent (fn := Tryd.f24) Gw02_awake.spec (by kernel_rfl) (by kernel_rfl) (by kernel_rfl) (by kernel_rfl)) (ents_nil)))
def Gw02_LexLines.Λ : Cuts (Tp Gw02_LexLines.rk) := cutsOf []
theorem Gw02_LexLines.spec : Spec Tryd.prog 11 Gw02_LexLines.pk Gw02_LexLines.rk Gw02_LexLines.g :=
  spec_of_body (fn := Tryd.f11) (c := bodyOf Tryd.f11) (by kernel_rfl) (by kernel_rfl) (by kernel_rfl) (by kernel_rfl) (ρ := Gw02_LexLines.ρ) Gw02_LexLines.hρ (Λ := Gw02_LexLines.Λ) (fun A w0 => cuts_nil) (fun x => by kernel_rfl)

/-! ### 19 bluebell/lex.IsName -/
def Glex_IsName.l58 : Nat → ByteArray → Int → Int → (ByteArray → Option Bool) → Option Bool
  | 0, _, _, _, _ => none
  | k + 1, v0, v18, v19, κ1 =>
    bif decide (v19 < v18) then gd (inB v19 v0.size) ((Glex_wordy.f (bt v0 v19.toNat)).bind fun r2 => bif (!r2) then some false else Glex_IsName.l58 k v0 v18 (IntKind.i64.wrap (v19 + 1)) κ1) else κ1 v0
def Glex_IsName.f (a0 : ByteArray) : Option Bool :=
  gd ((!(!((a0.toList == strNil.toList) || (decide ((a0.size : Int) > 24))))) || (inB 0 a0.size)) ((bif (!((a0.toList == strNil.toList) || (decide ((a0.size : Int) > 24)))) then Glex_small.f (bt a0 0) else some false).bind fun r1 => bif (((a0.toList == strNil.toList) || (decide ((a0.size : Int) > 24))) || (!r1)) then some false else Glex_IsName.l58 NN a0 (a0.size : Int) 0 (fun y3 => (Glex_keys.f).bind fun r4 => gd (decide (y3.size ≤ maxS)) (some (!((mget K.str (.s y3) (.b false) r4).bool)))))
def Glex_IsName.pk : List FK := [.str]
def Glex_IsName.rk : List FK := [.bool]
def Glex_IsName.g : Tp Glex_IsName.pk → Option (Tp Glex_IsName.rk) := fun x => Glex_IsName.f x
def Glex_IsName.ρ : List (Entry (Tp Glex_IsName.rk)) := [entry _ Tryd.prog 35 Glex_small.pk Glex_small.rk Glex_small.g, entry _ Tryd.prog 36 Glex_wordy.pk Glex_wordy.rk Glex_wordy.g, entry _ Tryd.prog 37 Glex_keys.pk Glex_keys.rk Glex_keys.g]
theorem Glex_IsName.hρ : ∀ e ∈ Glex_IsName.ρ, EntryOk Tryd.prog e :=
  ents_cons (ent (fn := Tryd.f35) Glex_small.spec (by kernel_rfl) (by kernel_rfl) (by kernel_rfl) (by kernel_rfl)) (ents_cons (ent (fn := Tryd.f36) Glex_wordy.spec (by kernel_rfl) (by kernel_rfl) (by kernel_rfl) (by kernel_rfl)) (ents_cons (ent (fn := Tryd.f37) Glex_keys.spec (by kernel_rfl) (by kernel_rfl) (by kernel_rfl) (by kernel_rfl)) (ents_nil)))
def Glex_IsName.fr58 : Fr := [(0, .str), (18, .int .i64), (19, .int .i64)]
def Glex_IsName.ou58 : Outs := [(1, [(0, .str)])]
def Glex_IsName.T58 (k : Nat) (x : Glex_IsName.fr58.T) (κ : Kp (Tp Glex_IsName.rk) Glex_IsName.ou58) : Option (Tp Glex_IsName.rk) := Glex_IsName.l58 k x.1 x.2.1 x.2.2 κ.1
def Glex_IsName.Λ0 : Cuts (Tp Glex_IsName.rk) := cutsOf []
def Glex_IsName.Λ : Cuts (Tp Glex_IsName.rk) := cutsOf [(58, cut Tryd.prog Glex_IsName.fr58 Glex_IsName.ou58 (Glex_IsName.T58 NN))]
theorem Glex_IsName.c58 (A : Ks) (w0 : World) : CutOk Tryd.prog ⟨Tryd.f19.ntmps, 0, A⟩ w0 (kRet Tryd.prog Tryd.f19.results.toList Glex_IsName.rk) (bodyOf Tryd.f19) 58 (cut Tryd.prog Glex_IsName.fr58 Glex_IsName.ou58 (Glex_IsName.T58 NN)) :=
  loop_ok Glex_IsName.hρ (Λ := Glex_IsName.Λ0) (cuts_nil) (by kernel_rfl) (D := 64) (b := loopOf Tryd.f19 58) (by kernel_rfl) (by kernel_rfl) NN (fun x κ => by kernel_rfl) (fun k x κ => by kernel_rfl)
theorem Glex_IsName.spec : Spec Tryd.prog 19 Glex_IsName.pk Glex_IsName.rk Glex_IsName.g :=
  spec_of_body (fn := Tryd.f19) (c := bodyOf Tryd.f19) (by kernel_rfl) (by kernel_rfl) (by kernel_rfl) (by kernel_rfl) (ρ := Glex_IsName.ρ) Glex_IsName.hρ (Λ := Glex_IsName.Λ) (fun A w0 => cuts_cons (Glex_IsName.c58 A w0) (cuts_nil)) (fun x => by kernel_rfl)

/-! ### 53 bluebell/lex.written -/
def Glex_written.l241658 : Nat → (List (D × D)) → D → (List D) → Int → Int → ((List (D × D)) → Option (ByteArray × Bool × List (D × D))) → Option (ByteArray × Bool × List (D × D))
  | 0, _, _, _, _, _, _ => none
  | k + 1, v1, v2, v66, v67, v68, κ2 =>
    bif decide (v68 < v67) then gd (inB v68 v66.length) (gd (Nat.blt v68.toNat v66.length) (bif (((rd v66 v68.toNat).str).toList == ((v2.cell 1).str).toList) then some ((rd v66 v68.toNat).str, true, v1) else Glex_written.l241658 k v1 v2 v66 v67 (IntKind.i64.wrap (v68 + 1)) κ2)) else κ2 v1
def Glex_written.f (a0 : D) (a1 : List (D × D)) : Option (ByteArray × Bool × List (D × D)) :=
  bif ((((a0.cell 0).int) != 2) && (((a0.cell 2).int) != 0)) then some (strNil, false, a1) else bif (((a0.cell 0).int) == 1) then (Glex_IsName.f ((a0.cell 1).str)).bind fun r1 => some ((a0.cell 1).str, r1, a1) else bif (((a0.cell 0).int) == 2) then (Glex_Number.f ((a0.cell 2).int)).bind fun r2 => some (r2.1, ((r2.2 == 0) && (((a0.cell 1).str).toList == strNil.toList)), a1) else bif (((a0.cell 0).int) == 3) then (Glex_Quote.f ((a0.cell 1).str)).bind fun r3 => some (r3.1, (r3.2 == 0), a1) else bif (((a0.cell 0).int) == 4) then gd (decide (((a0.cell 1).str).size ≤ maxS)) (some ((a0.cell 1).str, (mget K.str (.s ((a0.cell 1).str)) (.b false) a1).bool, a1)) else bif (((a0.cell 0).int) == 5) then (Glex_Signs.f).bind fun r4 => Glex_written.l241658 NN a1 a0 r4 (r4.length : Int) 0 (fun y5 => some (strNil, false, y5)) else some (strNil, false, a1)
def Glex_written.pk : List FK := [.st 33, .mp 9 4]
def Glex_written.rk : List FK := [.str, .bool, .mp 9 4]
def Glex_written.g : Tp Glex_written.pk → Option (Tp Glex_written.rk) := fun x => Glex_written.f x.1 x.2
def Glex_written.ρ : List (Entry (Tp Glex_written.rk)) := [entry _ Tryd.prog 19 Glex_IsName.pk Glex_IsName.rk Glex_IsName.g, entry _ Tryd.prog 28 Glex_Number.pk Glex_Number.rk Glex_Number.g, entry _ Tryd.prog 26 Glex_Quote.pk Glex_Quote.rk Glex_Quote.g, entry _ Tryd.prog 17 Glex_Signs.pk Glex_Signs.rk Glex_Signs.g]
theorem Glex_written.hρ : ∀ e ∈ Glex_written.ρ, EntryOk Tryd.prog e :=
  ents_cons (ent (fn := Tryd.f19) Glex_IsName.spec (by kernel_rfl) (by kernel_rfl) (by kernel_rfl) (by kernel_rfl)) (ents_cons (ent (fn := Tryd.f28) Glex_Number.spec (by kernel_rfl) (by kernel_rfl) (by kernel_rfl) (by kernel_rfl)) (ents_cons (ent (fn := Tryd.f26) Glex_Quote.spec (by kernel_rfl) (by kernel_rfl) (by kernel_rfl) (by kernel_rfl)) (ents_cons (ent (fn := Tryd.f17) Glex_Signs.spec (by kernel_rfl) (by kernel_rfl) (by kernel_rfl) (by kernel_rfl)) (ents_nil))))
def Glex_written.fr241658 : Fr := [(1, .mp 9 4), (2, .bx (.st 33)), (66, .own 9), (67, .int .i64), (68, .int .i64)]
def Glex_written.ou241658 : Outs := [(2, [(1, .mp 9 4)])]
def Glex_written.T241658 (k : Nat) (x : Glex_written.fr241658.T) (κ : Kp (Tp Glex_written.rk) Glex_written.ou241658) : Option (Tp Glex_written.rk) := Glex_written.l241658 k x.1 x.2.1 x.2.2.1 x.2.2.2.1 x.2.2.2.2 κ.1
def Glex_written.Λ0 : Cuts (Tp Glex_written.rk) := cutsOf []
def Glex_written.Λ : Cuts (Tp Glex_written.rk) := cutsOf [(241658, cut Tryd.prog Glex_written.fr241658 Glex_written.ou241658 (Glex_written.T241658 NN))]
theorem Glex_written.c241658 (A : Ks) (w0 : World) : CutOk Tryd.prog ⟨Tryd.f53.ntmps, 2, A⟩ w0 (kRetIO Tryd.prog [1] Tryd.f53.results.toList Glex_written.rk) (bodyOf Tryd.f53) 241658 (cut Tryd.prog Glex_written.fr241658 Glex_written.ou241658 (Glex_written.T241658 NN)) :=
  loop_ok Glex_written.hρ (Λ := Glex_written.Λ0) (cuts_nil) (by kernel_rfl) (D := 64) (b := loopOf Tryd.f53 241658) (by kernel_rfl) (by kernel_rfl) NN (fun x κ => by kernel_rfl) (fun k x κ => by kernel_rfl)
theorem Glex_written.spec : SpecIO Tryd.prog 53 Glex_written.pk [1] Glex_written.rk Glex_written.g :=
  spec_io_of_body (fn := Tryd.f53) (c := bodyOf Tryd.f53) (by kernel_rfl) (by kernel_rfl) (by kernel_rfl) (np := 2) (by kernel_rfl) (by kernel_rfl) (by kernel_rfl) (ρ := Glex_written.ρ) Glex_written.hρ (Λ := Glex_written.Λ) (fun A w0 => cuts_cons (Glex_written.c241658 A w0) (cuts_nil)) (fun x => by kernel_rfl)

/-! ### 32 bluebell/lex.Text -/
def Glex_Text.l122 : Nat → (List D) → (List (D × D)) → (List D) → Int → Int → (List D → Option (ByteArray × Int)) → Option (ByteArray × Int)
  | 0, _, _, _, _, _, _ => none
  | k + 1, v4, v5, v11, v12, v13, κ1 =>
    bif decide (v13 < v12) then gd (inB v13 v11.length) (bif ((((rd v11 v13.toNat).cell 0).int) == 0) then bif (((((rd v11 v13.toNat).cell 2).int) != 0) || (!((((rd v11 v13.toNat).cell 1).str).toList == strNil.toList))) then some (strNil, 3) else κ1 v4 else (Glex_written.f (rd v11 v13.toNat) v5).bind fun r2 => bif (!r2.2.1) then some (strNil, 3) else gd (Nat.ble (v4.length + ([.s r2.1] : List D).length) lim) (Glex_Text.l122 k (v4 ++ ([.s r2.1] : List D)) r2.2.2 v11 v12 (IntKind.i64.wrap (v13 + 1)) κ1)) else κ1 v4
def Glex_Text.f (a0 : List D) : Option (ByteArray × Int) :=
  (Glex_keys.f).bind fun r1 => Glex_Text.l122 NN [] r1 a0 (a0.length : Int) 0 (fun y3 => (Gstrings_Join.f y3 str20).bind fun r4 => some (r4, 0))
def Glex_Text.pk : List FK := [.sl 33]
def Glex_Text.rk : List FK := [.str, .int .i64]
def Glex_Text.g : Tp Glex_Text.pk → Option (Tp Glex_Text.rk) := fun x => Glex_Text.f x
def Glex_Text.ρ : List (Entry (Tp Glex_Text.rk)) := [entry _ Tryd.prog 37 Glex_keys.pk Glex_keys.rk Glex_keys.g, entryIO _ Tryd.prog 53 Glex_written.pk Glex_written.rk 1 Glex_written.g, entry _ Tryd.prog 54 Gstrings_Join.pk Gstrings_Join.rk Gstrings_Join.g]
theorem Glex_Text.hρ : ∀ e ∈ Glex_Text.ρ, EntryOk Tryd.prog e :=
  ents_cons (ent (fn := Tryd.f37) Glex_keys.spec (by kernel_rfl) (by kernel_rfl) (by kernel_rfl) (by kernel_rfl)) (ents_cons (entIO (fn := Tryd.f53) Glex_written.spec (by kernel_rfl) (by kernel_rfl) (by kernel_rfl)) (ents_cons (ent (fn := Tryd.f54) Gstrings_Join.spec (by kernel_rfl) (by kernel_rfl) (by kernel_rfl) (by kernel_rfl)) (ents_nil)))
def Glex_Text.fr122 : Fr := [(4, .own 9), (5, .mp 9 4), (11, .sl 33), (12, .int .i64), (13, .int .i64)]
def Glex_Text.ou122 : Outs := [(1, [(4, .own 9)])]
def Glex_Text.T122 (k : Nat) (x : Glex_Text.fr122.T) (κ : Kp (Tp Glex_Text.rk) Glex_Text.ou122) : Option (Tp Glex_Text.rk) := Glex_Text.l122 k x.1 x.2.1 x.2.2.1 x.2.2.2.1 x.2.2.2.2 κ.1
def Glex_Text.Λ0 : Cuts (Tp Glex_Text.rk) := cutsOf []
def Glex_Text.Λ : Cuts (Tp Glex_Text.rk) := cutsOf [(122, cut Tryd.prog Glex_Text.fr122 Glex_Text.ou122 (Glex_Text.T122 NN))]
theorem Glex_Text.c122 (A : Ks) (w0 : World) : CutOk Tryd.prog ⟨Tryd.f32.ntmps, 0, A⟩ w0 (kRet Tryd.prog Tryd.f32.results.toList Glex_Text.rk) (bodyOf Tryd.f32) 122 (cut Tryd.prog Glex_Text.fr122 Glex_Text.ou122 (Glex_Text.T122 NN)) :=
  loop_ok Glex_Text.hρ (Λ := Glex_Text.Λ0) (cuts_nil) (by kernel_rfl) (D := 64) (b := loopOf Tryd.f32 122) (by kernel_rfl) (by kernel_rfl) NN (fun x κ => by kernel_rfl) (fun k x κ => by kernel_rfl)
theorem Glex_Text.spec : Spec Tryd.prog 32 Glex_Text.pk Glex_Text.rk Glex_Text.g :=
  spec_of_body (fn := Tryd.f32) (c := bodyOf Tryd.f32) (by kernel_rfl) (by kernel_rfl) (by kernel_rfl) (by kernel_rfl) (ρ := Glex_Text.ρ) Glex_Text.hρ (Λ := Glex_Text.Λ) (fun A w0 => cuts_cons (Glex_Text.c122 A w0) (cuts_nil)) (fun x => by kernel_rfl)

/-! ### 20 bluebell/bluebellref02.IsName -/
def Gr02_IsName.l58 : Nat → ByteArray → Int → (Unit → Option Bool) → Option Bool
  | 0, _, _, _ => none
  | k + 1, v0, v3, κ1 =>
    bif decide (v3 < (v0.size : Int)) then gd (inB v3 v0.size) ((Gr02_isPart.f (bt v0 v3.toNat)).bind fun r4 => bif (!r4) then some false else Gr02_IsName.l58 k v0 (IntKind.i64.wrap (v3 + 1)) κ1) else κ1 ()
def Gr02_IsName.f (a0 : ByteArray) : Option Bool :=
  gd ((!(!(((a0.size : Int) == 0) || (decide ((a0.size : Int) > 24))))) || (inB 0 a0.size)) ((bif (!(((a0.size : Int) == 0) || (decide ((a0.size : Int) > 24)))) then Gr02_isSmall.f (bt a0 0) else some false).bind fun r1 => (bif (!((((a0.size : Int) == 0) || (decide ((a0.size : Int) > 24))) || (!r1))) then Gr02_Keys.f else some []).bind fun r2 => (bif (!((((a0.size : Int) == 0) || (decide ((a0.size : Int) > 24))) || (!r1))) then Gr02_has.f r2 a0 else some false).bind fun r3 => bif (((((a0.size : Int) == 0) || (decide ((a0.size : Int) > 24))) || (!r1)) || r3) then some false else Gr02_IsName.l58 NN a0 0 (fun y5 => some true))
def Gr02_IsName.pk : List FK := [.str]
def Gr02_IsName.rk : List FK := [.bool]
def Gr02_IsName.g : Tp Gr02_IsName.pk → Option (Tp Gr02_IsName.rk) := fun x => Gr02_IsName.f x
def Gr02_IsName.ρ : List (Entry (Tp Gr02_IsName.rk)) := [entry _ Tryd.prog 38 Gr02_isSmall.pk Gr02_isSmall.rk Gr02_isSmall.g, entry _ Tryd.prog 16 Gr02_Keys.pk Gr02_Keys.rk Gr02_Keys.g, entry _ Tryd.prog 39 Gr02_has.pk Gr02_has.rk Gr02_has.g, entry _ Tryd.prog 40 Gr02_isPart.pk Gr02_isPart.rk Gr02_isPart.g]
theorem Gr02_IsName.hρ : ∀ e ∈ Gr02_IsName.ρ, EntryOk Tryd.prog e :=
  ents_cons (ent (fn := Tryd.f38) Gr02_isSmall.spec (by kernel_rfl) (by kernel_rfl) (by kernel_rfl) (by kernel_rfl)) (ents_cons (ent (fn := Tryd.f16) Gr02_Keys.spec (by kernel_rfl) (by kernel_rfl) (by kernel_rfl) (by kernel_rfl)) (ents_cons (ent (fn := Tryd.f39) Gr02_has.spec (by kernel_rfl) (by kernel_rfl) (by kernel_rfl) (by kernel_rfl)) (ents_cons (ent (fn := Tryd.f40) Gr02_isPart.spec (by kernel_rfl) (by kernel_rfl) (by kernel_rfl) (by kernel_rfl)) (ents_nil))))
def Gr02_IsName.fr58 : Fr := [(0, .str), (3, .int .i64)]
def Gr02_IsName.ou58 : Outs := [(1, [])]
def Gr02_IsName.T58 (k : Nat) (x : Gr02_IsName.fr58.T) (κ : Kp (Tp Gr02_IsName.rk) Gr02_IsName.ou58) : Option (Tp Gr02_IsName.rk) := Gr02_IsName.l58 k x.1 x.2 κ.1
def Gr02_IsName.Λ0 : Cuts (Tp Gr02_IsName.rk) := cutsOf []
def Gr02_IsName.Λ : Cuts (Tp Gr02_IsName.rk) := cutsOf [(58, cut Tryd.prog Gr02_IsName.fr58 Gr02_IsName.ou58 (Gr02_IsName.T58 NN))]
theorem Gr02_IsName.c58 (A : Ks) (w0 : World) : CutOk Tryd.prog ⟨Tryd.f20.ntmps, 0, A⟩ w0 (kRet Tryd.prog Tryd.f20.results.toList Gr02_IsName.rk) (bodyOf Tryd.f20) 58 (cut Tryd.prog Gr02_IsName.fr58 Gr02_IsName.ou58 (Gr02_IsName.T58 NN)) :=
  loop_ok Gr02_IsName.hρ (Λ := Gr02_IsName.Λ0) (cuts_nil) (by kernel_rfl) (D := 64) (b := loopOf Tryd.f20 58) (by kernel_rfl) (by kernel_rfl) NN (fun x κ => by kernel_rfl) (fun k x κ => by kernel_rfl)
theorem Gr02_IsName.spec : Spec Tryd.prog 20 Gr02_IsName.pk Gr02_IsName.rk Gr02_IsName.g :=
  spec_of_body (fn := Tryd.f20) (c := bodyOf Tryd.f20) (by kernel_rfl) (by kernel_rfl) (by kernel_rfl) (by kernel_rfl) (ρ := Gr02_IsName.ρ) Gr02_IsName.hρ (Λ := Gr02_IsName.Λ) (fun A w0 => cuts_cons (Gr02_IsName.c58 A w0) (cuts_nil)) (fun x => by kernel_rfl)

/-! ### 55 bluebell/bluebellref02.written -/
def Gr02_written.f (a0 : D) : Option (ByteArray × Bool) :=
  bif (((a0.cell 0).int) == 1) then (Gr02_IsName.f ((a0.cell 1).str)).bind fun r1 => some ((a0.cell 1).str, (r1 && (((a0.cell 2).int) == 0))) else bif (((a0.cell 0).int) == 4) then (Gr02_Keys.f).bind fun r2 => (Gr02_has.f r2 ((a0.cell 1).str)).bind fun r3 => some ((a0.cell 1).str, (r3 && (((a0.cell 2).int) == 0))) else bif (((a0.cell 0).int) == 5) then (Gr02_Signs.f).bind fun r4 => (Gr02_has.f r4 ((a0.cell 1).str)).bind fun r5 => some ((a0.cell 1).str, (r5 && (((a0.cell 2).int) == 0))) else bif (((a0.cell 0).int) == 2) then (Gr02_Number.f ((a0.cell 2).int)).bind fun r6 => some (r6.1, ((r6.2 == 0) && (((a0.cell 1).str).toList == strNil.toList))) else bif (((a0.cell 0).int) == 3) then (Gr02_Quote.f ((a0.cell 1).str)).bind fun r7 => some (r7.1, ((r7.2 == 0) && (((a0.cell 2).int) == 0))) else some (strNil, false)
def Gr02_written.pk : List FK := [.st 33]
def Gr02_written.rk : List FK := [.str, .bool]
def Gr02_written.g : Tp Gr02_written.pk → Option (Tp Gr02_written.rk) := fun x => Gr02_written.f x
def Gr02_written.ρ : List (Entry (Tp Gr02_written.rk)) := [entry _ Tryd.prog 20 Gr02_IsName.pk Gr02_IsName.rk Gr02_IsName.g, entry _ Tryd.prog 16 Gr02_Keys.pk Gr02_Keys.rk Gr02_Keys.g, entry _ Tryd.prog 39 Gr02_has.pk Gr02_has.rk Gr02_has.g, entry _ Tryd.prog 18 Gr02_Signs.pk Gr02_Signs.rk Gr02_Signs.g, entry _ Tryd.prog 29 Gr02_Number.pk Gr02_Number.rk Gr02_Number.g, entry _ Tryd.prog 27 Gr02_Quote.pk Gr02_Quote.rk Gr02_Quote.g]
theorem Gr02_written.hρ : ∀ e ∈ Gr02_written.ρ, EntryOk Tryd.prog e :=
  ents_cons (ent (fn := Tryd.f20) Gr02_IsName.spec (by kernel_rfl) (by kernel_rfl) (by kernel_rfl) (by kernel_rfl)) (ents_cons (ent (fn := Tryd.f16) Gr02_Keys.spec (by kernel_rfl) (by kernel_rfl) (by kernel_rfl) (by kernel_rfl)) (ents_cons (ent (fn := Tryd.f39) Gr02_has.spec (by kernel_rfl) (by kernel_rfl) (by kernel_rfl) (by kernel_rfl)) (ents_cons (ent (fn := Tryd.f18) Gr02_Signs.spec (by kernel_rfl) (by kernel_rfl) (by kernel_rfl) (by kernel_rfl)) (ents_cons (ent (fn := Tryd.f29) Gr02_Number.spec (by kernel_rfl) (by kernel_rfl) (by kernel_rfl) (by kernel_rfl)) (ents_cons (ent (fn := Tryd.f27) Gr02_Quote.spec (by kernel_rfl) (by kernel_rfl) (by kernel_rfl) (by kernel_rfl)) (ents_nil))))))
def Gr02_written.Λ : Cuts (Tp Gr02_written.rk) := cutsOf []
theorem Gr02_written.spec : Spec Tryd.prog 55 Gr02_written.pk Gr02_written.rk Gr02_written.g :=
  spec_of_body (fn := Tryd.f55) (c := bodyOf Tryd.f55) (by kernel_rfl) (by kernel_rfl) (by kernel_rfl) (by kernel_rfl) (ρ := Gr02_written.ρ) Gr02_written.hρ (Λ := Gr02_written.Λ) (fun A w0 => cuts_nil) (fun x => by kernel_rfl)

/-! ### 33 bluebell/bluebellref02.Text -/
def Gr02_Text.p14927 (v0 : List D) (v4 : ByteArray) (v5 : Int) (v6 : ByteArray) (κ0 : (List D × ByteArray × Int) → Option (ByteArray × Int)) : Option (ByteArray × Int) :=
  gd (decide (v4.size + v6.size ≤ maxS)) (κ0 (v0, (v4 ++ v6), v5))
def Gr02_Text.l58 : Nat → (List D) → ByteArray → Int → (ByteArray → Option (ByteArray × Int)) → Option (ByteArray × Int)
  | 0, _, _, _, _ => none
  | k + 1, v0, v4, v5, κ1 =>
    bif decide (v5 < (v0.length : Int)) then gd (inB v5 v0.length) (bif ((((rd v0 v5.toNat).cell 0).int) == 0) then gd (inB v5 v0.length) (gd ((!(!(!((((rd v0 v5.toNat).cell 1).str).toList == strNil.toList)))) || (inB v5 v0.length)) (bif ((!((((rd v0 v5.toNat).cell 1).str).toList == strNil.toList)) || ((((rd v0 v5.toNat).cell 2).int) != 0)) then some (strNil, 3) else κ1 v4)) else gd (inB v5 v0.length) ((Gr02_written.f (rd v0 v5.toNat)).bind fun r1 => bif (!r1.2) then some (strNil, 3) else bif decide (v5 > 0) then gd (decide (v4.size + str20.size ≤ maxS)) (Gr02_Text.p14927 v0 (v4 ++ str20) v5 r1.1 (fun y2 => Gr02_Text.l58 k y2.1 y2.2.1 (IntKind.i64.wrap (y2.2.2 + 1)) κ1)) else Gr02_Text.p14927 v0 v4 v5 r1.1 (fun y3 => Gr02_Text.l58 k y3.1 y3.2.1 (IntKind.i64.wrap (y3.2.2 + 1)) κ1))) else κ1 v4
def Gr02_Text.f (a0 : List D) : Option (ByteArray × Int) :=
  Gr02_Text.l58 NN a0 strNil 0 (fun y4 => some (y4, 0))
def Gr02_Text.pk : List FK := [.sl 33]
def Gr02_Text.rk : List FK := [.str, .int .i64]
def Gr02_Text.g : Tp Gr02_Text.pk → Option (Tp Gr02_Text.rk) := fun x => Gr02_Text.f x
def Gr02_Text.ρ : List (Entry (Tp Gr02_Text.rk)) := [entry _ Tryd.prog 55 Gr02_written.pk Gr02_written.rk Gr02_written.g]
theorem Gr02_Text.hρ : ∀ e ∈ Gr02_Text.ρ, EntryOk Tryd.prog e :=
  ents_cons (ent (fn := Tryd.f55) Gr02_written.spec (by kernel_rfl) (by kernel_rfl) (by kernel_rfl) (by kernel_rfl)) (ents_nil)
def Gr02_Text.fr14927 : Fr := [(0, .sl 33), (4, .str), (5, .int .i64), (6, .str)]
def Gr02_Text.ou14927 : Outs := [(0, [(0, .sl 33), (4, .str), (5, .int .i64)])]
def Gr02_Text.T14927 (x : Gr02_Text.fr14927.T) (κ : Kp (Tp Gr02_Text.rk) Gr02_Text.ou14927) : Option (Tp Gr02_Text.rk) := Gr02_Text.p14927 x.1 x.2.1 x.2.2.1 x.2.2.2 κ.1
def Gr02_Text.fr58 : Fr := [(0, .sl 33), (4, .str), (5, .int .i64)]
def Gr02_Text.ou58 : Outs := [(1, [(4, .str)])]
def Gr02_Text.T58 (k : Nat) (x : Gr02_Text.fr58.T) (κ : Kp (Tp Gr02_Text.rk) Gr02_Text.ou58) : Option (Tp Gr02_Text.rk) := Gr02_Text.l58 k x.1 x.2.1 x.2.2 κ.1
def Gr02_Text.Λ0 : Cuts (Tp Gr02_Text.rk) := cutsOf []
def Gr02_Text.Λ1 : Cuts (Tp Gr02_Text.rk) := cutsOf [(14927, cut Tryd.prog Gr02_Text.fr14927 Gr02_Text.ou14927 (Gr02_Text.T14927))]
def Gr02_Text.Λ : Cuts (Tp Gr02_Text.rk) := cutsOf [(58, cut Tryd.prog Gr02_Text.fr58 Gr02_Text.ou58 (Gr02_Text.T58 NN)), (14927, cut Tryd.prog Gr02_Text.fr14927 Gr02_Text.ou14927 (Gr02_Text.T14927))]
theorem Gr02_Text.c14927 (A : Ks) (w0 : World) : CutOk Tryd.prog ⟨Tryd.f33.ntmps, 0, A⟩ w0 (kRet Tryd.prog Tryd.f33.results.toList Gr02_Text.rk) (bodyOf Tryd.f33) 14927 (cut Tryd.prog Gr02_Text.fr14927 Gr02_Text.ou14927 (Gr02_Text.T14927)) :=
  cut_ok Gr02_Text.hρ (Λ := Gr02_Text.Λ0) (cuts_nil) (by kernel_rfl) (by kernel_rfl) (D := 64) (c := nodeOf Tryd.f33 14927) (by kernel_rfl) (by kernel_rfl) (fun x κ => by kernel_rfl)
theorem Gr02_Text.c58 (A : Ks) (w0 : World) : CutOk Tryd.prog ⟨Tryd.f33.ntmps, 0, A⟩ w0 (kRet Tryd.prog Tryd.f33.results.toList Gr02_Text.rk) (bodyOf Tryd.f33) 58 (cut Tryd.prog Gr02_Text.fr58 Gr02_Text.ou58 (Gr02_Text.T58 NN)) :=
  loop_ok Gr02_Text.hρ (Λ := Gr02_Text.Λ1) (cuts_cons (Gr02_Text.c14927 A w0) (cuts_nil)) (by kernel_rfl) (D := 64) (b := loopOf Tryd.f33 58) (by kernel_rfl) (by kernel_rfl) NN (fun x κ => by kernel_rfl) (fun k x κ => by kernel_rfl)
theorem Gr02_Text.spec : Spec Tryd.prog 33 Gr02_Text.pk Gr02_Text.rk Gr02_Text.g :=
  spec_of_body (fn := Tryd.f33) (c := bodyOf Tryd.f33) (by kernel_rfl) (by kernel_rfl) (by kernel_rfl) (by kernel_rfl) (ρ := Gr02_Text.ρ) Gr02_Text.hρ (Λ := Gr02_Text.Λ) (fun A w0 => cuts_cons (Gr02_Text.c58 A w0) (cuts_cons (Gr02_Text.c14927 A w0) (cuts_nil))) (fun x => by kernel_rfl)

/-! ### 12 bluebell/bluebelllaw02.LexTexts -/
def Gw02_LexTexts.f (a0 : List D) : Option Bool :=
  bif decide ((a0.length : Int) > 20000) then (Gw02_awake.f).bind fun r1 => some r1 else (Glex_Text.f a0).bind fun r2 => (Gr02_Text.f a0).bind fun r3 => (bif ((r2.1.toList == r3.1.toList) && (r2.2 == r3.2)) then Gw02_awake.f else some false).bind fun r4 => some (((r2.1.toList == r3.1.toList) && (r2.2 == r3.2)) && r4)
def Gw02_LexTexts.pk : List FK := [.sl 33]
def Gw02_LexTexts.rk : List FK := [.bool]
def Gw02_LexTexts.g : Tp Gw02_LexTexts.pk → Option (Tp Gw02_LexTexts.rk) := fun x => Gw02_LexTexts.f x
def Gw02_LexTexts.ρ : List (Entry (Tp Gw02_LexTexts.rk)) := [entry _ Tryd.prog 24 Gw02_awake.pk Gw02_awake.rk Gw02_awake.g, entry _ Tryd.prog 32 Glex_Text.pk Glex_Text.rk Glex_Text.g, entry _ Tryd.prog 33 Gr02_Text.pk Gr02_Text.rk Gr02_Text.g]
theorem Gw02_LexTexts.hρ : ∀ e ∈ Gw02_LexTexts.ρ, EntryOk Tryd.prog e :=
  ents_cons (ent (fn := Tryd.f24) Gw02_awake.spec (by kernel_rfl) (by kernel_rfl) (by kernel_rfl) (by kernel_rfl)) (ents_cons (ent (fn := Tryd.f32) Glex_Text.spec (by kernel_rfl) (by kernel_rfl) (by kernel_rfl) (by kernel_rfl)) (ents_cons (ent (fn := Tryd.f33) Gr02_Text.spec (by kernel_rfl) (by kernel_rfl) (by kernel_rfl) (by kernel_rfl)) (ents_nil)))
def Gw02_LexTexts.Λ : Cuts (Tp Gw02_LexTexts.rk) := cutsOf []
theorem Gw02_LexTexts.spec : Spec Tryd.prog 12 Gw02_LexTexts.pk Gw02_LexTexts.rk Gw02_LexTexts.g :=
  spec_of_body (fn := Tryd.f12) (c := bodyOf Tryd.f12) (by kernel_rfl) (by kernel_rfl) (by kernel_rfl) (by kernel_rfl) (ρ := Gw02_LexTexts.ρ) Gw02_LexTexts.hρ (Λ := Gw02_LexTexts.Λ) (fun A w0 => cuts_nil) (fun x => by kernel_rfl)

/-! ### 13 bluebell/bluebelllaw02.LexBack -/
def Gw02_LexBack.l252 : Nat → (List D) → ByteArray → Int → ((List D × ByteArray × Int) → Option Bool) → Option Bool
  | 0, _, _, _, _ => none
  | k + 1, v0, v3, v5, κ1 =>
    gd ((!(decide (v5 < (v0.length : Int)))) || (inB v5 v0.length)) (bif ((decide (v5 < (v0.length : Int))) && ((((rd v0 v5.toNat).cell 0).int) != 0)) then Gw02_LexBack.l252 k v0 v3 (IntKind.i64.wrap (v5 + 1)) κ1 else κ1 (v0, v3, v5))
def Gw02_LexBack.f (a0 : List D) : Option Bool :=
  bif decide ((a0.length : Int) > 20000) then (Gw02_awake.f).bind fun r1 => some r1 else (Glex_Text.f a0).bind fun r2 => bif ((r2.2 != 0) || (decide ((r2.1.size : Int) > 40000))) then (Gw02_awake.f).bind fun r3 => some r3 else Gw02_LexBack.l252 NN a0 r2.1 0 (fun y4 => bif decide (y4.2.2 ≥ 20000) then (Gw02_awake.f).bind fun r5 => some r5 else (Glex_Scan.f y4.2.1).bind fun r6 => gd ((!(r6.2.1 == 0)) || (decide (0 ≤ y4.2.2) && decide (y4.2.2 ≤ (y4.1.length : Int)))) (bif (r6.2.1 == 0) then gd (Nat.ble (y4.1.take y4.2.2.toNat).length lim) (gd (Nat.ble ((y4.1.take y4.2.2.toNat).length + ([.r [.i 0, .s ByteArray.empty, .i 0, .i 0]] : List D).length) lim) ((Gw02_alike.f r6.1 ((y4.1.take y4.2.2.toNat) ++ ([.r [.i 0, .s ByteArray.empty, .i 0, .i 0]] : List D))).bind fun r7 => (bif r7 then Gw02_awake.f else some false).bind fun r8 => some (r7 && r8))) else (bif false then Gw02_awake.f else some false).bind fun r9 => some false))
def Gw02_LexBack.pk : List FK := [.sl 33]
def Gw02_LexBack.rk : List FK := [.bool]
def Gw02_LexBack.g : Tp Gw02_LexBack.pk → Option (Tp Gw02_LexBack.rk) := fun x => Gw02_LexBack.f x
def Gw02_LexBack.ρ : List (Entry (Tp Gw02_LexBack.rk)) := [entry _ Tryd.prog 24 Gw02_awake.pk Gw02_awake.rk Gw02_awake.g, entry _ Tryd.prog 32 Glex_Text.pk Glex_Text.rk Glex_Text.g, entry _ Tryd.prog 21 Glex_Scan.pk Glex_Scan.rk Glex_Scan.g, entry _ Tryd.prog 25 Gw02_alike.pk Gw02_alike.rk Gw02_alike.g]
theorem Gw02_LexBack.hρ : ∀ e ∈ Gw02_LexBack.ρ, EntryOk Tryd.prog e :=
  ents_cons (ent (fn := Tryd.f24) Gw02_awake.spec (by kernel_rfl) (by kernel_rfl) (by kernel_rfl) (by kernel_rfl)) (ents_cons (ent (fn := Tryd.f32) Glex_Text.spec (by kernel_rfl) (by kernel_rfl) (by kernel_rfl) (by kernel_rfl)) (ents_cons (ent (fn := Tryd.f21) Glex_Scan.spec (by kernel_rfl) (by kernel_rfl) (by kernel_rfl) (by kernel_rfl)) (ents_cons (ent (fn := Tryd.f25) Gw02_alike.spec (by kernel_rfl) (by kernel_rfl) (by kernel_rfl) (by kernel_rfl)) (ents_nil))))
def Gw02_LexBack.fr252 : Fr := [(0, .sl 33), (3, .str), (5, .int .i64)]
def Gw02_LexBack.ou252 : Outs := [(1, [(0, .sl 33), (3, .str), (5, .int .i64)])]
def Gw02_LexBack.T252 (k : Nat) (x : Gw02_LexBack.fr252.T) (κ : Kp (Tp Gw02_LexBack.rk) Gw02_LexBack.ou252) : Option (Tp Gw02_LexBack.rk) := Gw02_LexBack.l252 k x.1 x.2.1 x.2.2 κ.1
def Gw02_LexBack.Λ0 : Cuts (Tp Gw02_LexBack.rk) := cutsOf []
def Gw02_LexBack.Λ : Cuts (Tp Gw02_LexBack.rk) := cutsOf [(252, cut Tryd.prog Gw02_LexBack.fr252 Gw02_LexBack.ou252 (Gw02_LexBack.T252 NN))]
theorem Gw02_LexBack.c252 (A : Ks) (w0 : World) : CutOk Tryd.prog ⟨Tryd.f13.ntmps, 0, A⟩ w0 (kRet Tryd.prog Tryd.f13.results.toList Gw02_LexBack.rk) (bodyOf Tryd.f13) 252 (cut Tryd.prog Gw02_LexBack.fr252 Gw02_LexBack.ou252 (Gw02_LexBack.T252 NN)) :=
  loop_ok Gw02_LexBack.hρ (Λ := Gw02_LexBack.Λ0) (cuts_nil) (by kernel_rfl) (D := 64) (b := loopOf Tryd.f13 252) (by kernel_rfl) (by kernel_rfl) NN (fun x κ => by kernel_rfl) (fun k x κ => by kernel_rfl)
theorem Gw02_LexBack.spec : Spec Tryd.prog 13 Gw02_LexBack.pk Gw02_LexBack.rk Gw02_LexBack.g :=
  spec_of_body (fn := Tryd.f13) (c := bodyOf Tryd.f13) (by kernel_rfl) (by kernel_rfl) (by kernel_rfl) (by kernel_rfl) (ρ := Gw02_LexBack.ρ) Gw02_LexBack.hρ (Λ := Gw02_LexBack.Λ) (fun A w0 => cuts_cons (Gw02_LexBack.c252 A w0) (cuts_nil)) (fun x => by kernel_rfl)
end
end Go.Pv
