/- The program's functions as functions of data, and their contracts. -/
import Derived.Test.YtgileklccaliiaaDoorPOcC
import Derived.Test.YtgileklccaliiaaDoorPOcHBdB
import Derived.Test.YtgileklccaliiaaDoorProg
set_option linter.unusedVariables false
set_option linter.unusedSimpArgs false
set_option maxRecDepth 100000
namespace Go.Pv
noncomputable section
open Go.Proofs
def strNil : ByteArray := ⟨#[]⟩
def str0a092a22 : ByteArray := ⟨#[10, 9, 42, 34]⟩
def str6e742a22 : ByteArray := ⟨#[110, 116, 42, 34]⟩
def str6e756d : ByteArray := ⟨#[110, 117, 109]⟩
def str6c6f63616c : ByteArray := ⟨#[108, 111, 99, 97, 108]⟩
def str7075746c : ByteArray := ⟨#[112, 117, 116, 108]⟩
def str616464726c : ByteArray := ⟨#[97, 100, 100, 114, 108]⟩
def str676c6f62616c : ByteArray := ⟨#[103, 108, 111, 98, 97, 108]⟩
def str70757467 : ByteArray := ⟨#[112, 117, 116, 103]⟩
def str6164647267 : ByteArray := ⟨#[97, 100, 100, 114, 103]⟩
def str737461746963 : ByteArray := ⟨#[115, 116, 97, 116, 105, 99]⟩
def str70757473 : ByteArray := ⟨#[112, 117, 116, 115]⟩
def str6164647273 : ByteArray := ⟨#[97, 100, 100, 114, 115]⟩
def str70726f63 : ByteArray := ⟨#[112, 114, 111, 99]⟩
def str6c6f6164 : ByteArray := ⟨#[108, 111, 97, 100]⟩
def str73746f7265 : ByteArray := ⟨#[115, 116, 111, 114, 101]⟩
def str67657462 : ByteArray := ⟨#[103, 101, 116, 98]⟩
def str70757462 : ByteArray := ⟨#[112, 117, 116, 98]⟩
def str62696e : ByteArray := ⟨#[98, 105, 110]⟩
def str756e : ByteArray := ⟨#[117, 110]⟩
def str737461636b : ByteArray := ⟨#[115, 116, 97, 99, 107]⟩
def str6c6162656c : ByteArray := ⟨#[108, 97, 98, 101, 108]⟩
def str6a756d70 : ByteArray := ⟨#[106, 117, 109, 112]⟩
def str74727565 : ByteArray := ⟨#[116, 114, 117, 101]⟩
def str66616c7365 : ByteArray := ⟨#[102, 97, 108, 115, 101]⟩
def str63616c6c : ByteArray := ⟨#[99, 97, 108, 108]⟩
def str656e746572 : ByteArray := ⟨#[101, 110, 116, 101, 114]⟩
def str72657475726e : ByteArray := ⟨#[114, 101, 116, 117, 114, 110]⟩
def str6261636b : ByteArray := ⟨#[98, 97, 99, 107]⟩
def str726573756c74 : ByteArray := ⟨#[114, 101, 115, 117, 108, 116]⟩
def str74616b65 : ByteArray := ⟨#[116, 97, 107, 101]⟩
def str737769746368 : ByteArray := ⟨#[115, 119, 105, 116, 99, 104]⟩
def str63617365 : ByteArray := ⟨#[99, 97, 115, 101]⟩
def strh8036656af6d38cfb : ByteArray := ⟨#[109, 117, 108, 32, 100, 105, 118, 32, 114, 101, 109, 32, 97, 100, 100, 32, 115, 117, 98, 32, 115, 104, 108, 32, 115, 104, 114, 32, 97, 110, 100, 32, 111, 114, 32, 120, 111, 114, 32, 101, 113, 118, 32, 101, 113, 32, 110, 101, 32, 108, 116, 32, 108, 101, 32, 103, 116, 32, 103, 101, 32, 110, 101, 103, 32, 110, 111, 116]⟩
def str20 : ByteArray := ⟨#[32]⟩
def str636f646520 : ByteArray := ⟨#[99, 111, 100, 101, 32]⟩
def str7465787420 : ByteArray := ⟨#[116, 101, 120, 116, 32]⟩
def str776f726473 : ByteArray := ⟨#[119, 111, 114, 100, 115]⟩
def str656e74727920 : ByteArray := ⟨#[101, 110, 116, 114, 121, 32]⟩
def str656e64 : ByteArray := ⟨#[101, 110, 100]⟩
def str22 : ByteArray := ⟨#[34]⟩
def str2a6e : ByteArray := ⟨#[42, 110]⟩
def str2a74 : ByteArray := ⟨#[42, 116]⟩
def str2a : ByteArray := ⟨#[42]⟩
def str2d39323233333732303336383534373735383038 : ByteArray := ⟨#[45, 57, 50, 50, 51, 51, 55, 50, 48, 51, 54, 56, 53, 52, 55, 55, 53, 56, 48, 56]⟩
def str2d : ByteArray := ⟨#[45]⟩
def str30313233343536373839 : ByteArray := ⟨#[48, 49, 50, 51, 52, 53, 54, 55, 56, 57]⟩
def str6d756c : ByteArray := ⟨#[109, 117, 108]⟩
def str646976 : ByteArray := ⟨#[100, 105, 118]⟩
def str72656d : ByteArray := ⟨#[114, 101, 109]⟩
def str616464 : ByteArray := ⟨#[97, 100, 100]⟩
def str737562 : ByteArray := ⟨#[115, 117, 98]⟩
def str73686c : ByteArray := ⟨#[115, 104, 108]⟩
def str736872 : ByteArray := ⟨#[115, 104, 114]⟩
def str616e64 : ByteArray := ⟨#[97, 110, 100]⟩
def str6f72 : ByteArray := ⟨#[111, 114]⟩
def str786f72 : ByteArray := ⟨#[120, 111, 114]⟩
def str657176 : ByteArray := ⟨#[101, 113, 118]⟩
def str6571 : ByteArray := ⟨#[101, 113]⟩
def str6e65 : ByteArray := ⟨#[110, 101]⟩
def str6c74 : ByteArray := ⟨#[108, 116]⟩
def str6c65 : ByteArray := ⟨#[108, 101]⟩
def str6774 : ByteArray := ⟨#[103, 116]⟩
def str6765 : ByteArray := ⟨#[103, 101]⟩
def str6e6567 : ByteArray := ⟨#[110, 101, 103]⟩
def str6e6f74 : ByteArray := ⟨#[110, 111, 116]⟩
def str0a : ByteArray := ⟨#[10]⟩
def str656e640a : ByteArray := ⟨#[101, 110, 100, 10]⟩

/-! ### 8 bluebell/bluebellref00.HeavyCode -/
def Gr00_HeavyCode.l58 : Nat → Int → D → Int → Int → ((Int × D × Int) → Option Bool) → Option Bool
  | 0, _, _, _, _, _ => none
  | k + 1, v1, v2, v5, v6, κ1 =>
    bif ((decide (v6 < (((v2.cell 1).list).length : Int))) && (decide (v5 ≤ 2000))) then gd (inB v6 ((v2.cell 1).list).length) (gd (inB v6 ((v2.cell 1).list).length) (Gr00_HeavyCode.l58 k v1 v2 (IntKind.i64.wrap ((IntKind.i64.wrap ((IntKind.i64.wrap (v5 + 1)) + ((((rd ((v2.cell 1).list) v6.toNat).cell 0).str).size : Int))) + ((((rd ((v2.cell 1).list) v6.toNat).cell 2).list).length : Int))) (IntKind.i64.wrap (v6 + 1)) κ1)) else κ1 (v1, v2, v5)
def Gr00_HeavyCode.f (a0 : D) (a1 : Int) : Option Bool :=
  Gr00_HeavyCode.l58 NN a1 a0 (((a0.cell 0).str).size : Int) 0 (fun y1 => some (((decide ((((y1.2.1.cell 2).list).length : Int) > y1.1)) || (decide ((((y1.2.1.cell 3).list).length : Int) > 400))) || (decide (y1.2.2 > 2000))))
def Gr00_HeavyCode.pk : List FK := [.st 26, .int .i64]
def Gr00_HeavyCode.rk : List FK := [.bool]
def Gr00_HeavyCode.g : Tp Gr00_HeavyCode.pk → Option (Tp Gr00_HeavyCode.rk) := fun x => Gr00_HeavyCode.f x.1 x.2
def Gr00_HeavyCode.ρ : List (Entry (Tp Gr00_HeavyCode.rk)) := []
theorem Gr00_HeavyCode.hρ : ∀ e ∈ Gr00_HeavyCode.ρ, EntryOk Tryd.prog e :=
  ents_nil
def Gr00_HeavyCode.fr58 : Fr := [(1, .int .i64), (2, .bx (.st 26)), (5, .int .i64), (6, .int .i64)]
def Gr00_HeavyCode.ou58 : Outs := [(1, [(1, .int .i64), (2, .bx (.st 26)), (5, .int .i64)])]
def Gr00_HeavyCode.T58 (k : Nat) (x : Gr00_HeavyCode.fr58.T) (κ : Kp (Tp Gr00_HeavyCode.rk) Gr00_HeavyCode.ou58) : Option (Tp Gr00_HeavyCode.rk) := Gr00_HeavyCode.l58 k x.1 x.2.1 x.2.2.1 x.2.2.2 κ.1
def Gr00_HeavyCode.Λ0 : Cuts (Tp Gr00_HeavyCode.rk) := cutsOf []
def Gr00_HeavyCode.Λ : Cuts (Tp Gr00_HeavyCode.rk) := cutsOf [(58, cut Tryd.prog Gr00_HeavyCode.fr58 Gr00_HeavyCode.ou58 (Gr00_HeavyCode.T58 NN))]
theorem Gr00_HeavyCode.c58 (A : Ks) (w0 : World) : CutOk Tryd.prog ⟨Tryd.f8.ntmps, 0, A⟩ w0 (kRet Tryd.prog Tryd.f8.results.toList Gr00_HeavyCode.rk) (bodyOf Tryd.f8) 58 (cut Tryd.prog Gr00_HeavyCode.fr58 Gr00_HeavyCode.ou58 (Gr00_HeavyCode.T58 NN)) :=
  loop_ok Gr00_HeavyCode.hρ (Λ := Gr00_HeavyCode.Λ0) (cuts_nil) (by kernel_rfl) (D := 64) (b := loopOf Tryd.f8 58) (by kernel_rfl) (by kernel_rfl) NN (fun x κ => by kernel_rfl) (fun k x κ => by kernel_rfl)
theorem Gr00_HeavyCode.spec : Spec Tryd.prog 8 Gr00_HeavyCode.pk Gr00_HeavyCode.rk Gr00_HeavyCode.g :=
  spec_of_body (fn := Tryd.f8) (c := bodyOf Tryd.f8) (by kernel_rfl) (by kernel_rfl) (by kernel_rfl) (by kernel_rfl) (ρ := Gr00_HeavyCode.ρ) Gr00_HeavyCode.hρ (Λ := Gr00_HeavyCode.Λ) (fun A w0 => cuts_cons (Gr00_HeavyCode.c58 A w0) (cuts_nil)) (fun x => by kernel_rfl)

/-! ### 4 bluebell/bluebelllaw06.heavy -/
def Gw06_heavy.f (a0 : D) : Option Bool :=
  (Gr00_HeavyCode.f a0 40100).bind fun r1 => some r1
def Gw06_heavy.pk : List FK := [.st 26]
def Gw06_heavy.rk : List FK := [.bool]
def Gw06_heavy.g : Tp Gw06_heavy.pk → Option (Tp Gw06_heavy.rk) := fun x => Gw06_heavy.f x
def Gw06_heavy.ρ : List (Entry (Tp Gw06_heavy.rk)) := [entry _ Tryd.prog 8 Gr00_HeavyCode.pk Gr00_HeavyCode.rk Gr00_HeavyCode.g]
theorem Gw06_heavy.hρ : ∀ e ∈ Gw06_heavy.ρ, EntryOk Tryd.prog e :=
  ents_cons (ent (fn := Tryd.f8) Gr00_HeavyCode.spec (by kernel_rfl) (by kernel_rfl) (by kernel_rfl) (by kernel_rfl)) (ents_nil)
def Gw06_heavy.Λ : Cuts (Tp Gw06_heavy.rk) := cutsOf []
theorem Gw06_heavy.spec : Spec Tryd.prog 4 Gw06_heavy.pk Gw06_heavy.rk Gw06_heavy.g :=
  spec_of_body (fn := Tryd.f4) (c := bodyOf Tryd.f4) (by kernel_rfl) (by kernel_rfl) (by kernel_rfl) (by kernel_rfl) (ρ := Gw06_heavy.ρ) Gw06_heavy.hρ (Λ := Gw06_heavy.Λ) (fun A w0 => cuts_nil) (fun x => by kernel_rfl)

/-! ### 25 bluebell/ocode.large -/
def Gocode_large.l122 : Nat → Int → (List D) → Int → Int → (Int → Option Bool) → Option Bool
  | 0, _, _, _, _, _ => none
  | k + 1, v3, v27, v28, v29, κ1 =>
    bif decide (v29 < v28) then gd (inB v29 v27.length) (bif ((rd v27 v29.toNat).cell 1).bool then gd (!(2 == 0)) (Gocode_large.l122 k (IntKind.i64.wrap ((IntKind.i64.wrap (v3 + ((((rd v27 v29.toNat).cell 2).list).length : Int))) + (IntKind.i64.wrap ((IntKind.i64.wrap (((((rd v27 v29.toNat).cell 0).str).size : Int) + 2)).tdiv 2)))) v27 v28 (IntKind.i64.wrap (v29 + 1)) κ1) else Gocode_large.l122 k (IntKind.i64.wrap (v3 + ((((rd v27 v29.toNat).cell 2).list).length : Int))) v27 v28 (IntKind.i64.wrap (v29 + 1)) κ1) else κ1 v3
def Gocode_large.f (a0 : D) : Option Bool :=
  bif ((((decide ((((a0.cell 2).list).length : Int) > 40000)) || (decide ((((a0.cell 1).list).length : Int) > 2000))) || (decide (((a0.cell 4).int) > 200))) || (decide (((a0.cell 5).int) > 20000))) then some true else Gocode_large.l122 NN 0 ((a0.cell 1).list) (((a0.cell 1).list).length : Int) 0 (fun y1 => some (decide (y1 > 7800)))
def Gocode_large.pk : List FK := [.st 26]
def Gocode_large.rk : List FK := [.bool]
def Gocode_large.g : Tp Gocode_large.pk → Option (Tp Gocode_large.rk) := fun x => Gocode_large.f x
def Gocode_large.ρ : List (Entry (Tp Gocode_large.rk)) := []
theorem Gocode_large.hρ : ∀ e ∈ Gocode_large.ρ, EntryOk Tryd.prog e :=
  ents_nil
def Gocode_large.fr122 : Fr := [(3, .int .i64), (27, .sl 52), (28, .int .i64), (29, .int .i64)]
def Gocode_large.ou122 : Outs := [(1, [(3, .int .i64)])]
def Gocode_large.T122 (k : Nat) (x : Gocode_large.fr122.T) (κ : Kp (Tp Gocode_large.rk) Gocode_large.ou122) : Option (Tp Gocode_large.rk) := Gocode_large.l122 k x.1 x.2.1 x.2.2.1 x.2.2.2 κ.1
def Gocode_large.Λ0 : Cuts (Tp Gocode_large.rk) := cutsOf []
def Gocode_large.Λ : Cuts (Tp Gocode_large.rk) := cutsOf [(122, cut Tryd.prog Gocode_large.fr122 Gocode_large.ou122 (Gocode_large.T122 NN))]
theorem Gocode_large.c122 (A : Ks) (w0 : World) : CutOk Tryd.prog ⟨Tryd.f25.ntmps, 0, A⟩ w0 (kRet Tryd.prog Tryd.f25.results.toList Gocode_large.rk) (bodyOf Tryd.f25) 122 (cut Tryd.prog Gocode_large.fr122 Gocode_large.ou122 (Gocode_large.T122 NN)) :=
  loop_ok Gocode_large.hρ (Λ := Gocode_large.Λ0) (cuts_nil) (by kernel_rfl) (D := 64) (b := loopOf Tryd.f25 122) (by kernel_rfl) (by kernel_rfl) NN (fun x κ => by kernel_rfl) (fun k x κ => by kernel_rfl)
theorem Gocode_large.spec : Spec Tryd.prog 25 Gocode_large.pk Gocode_large.rk Gocode_large.g :=
  spec_of_body (fn := Tryd.f25) (c := bodyOf Tryd.f25) (by kernel_rfl) (by kernel_rfl) (by kernel_rfl) (by kernel_rfl) (ρ := Gocode_large.ρ) Gocode_large.hρ (Λ := Gocode_large.Λ) (fun A w0 => cuts_cons (Gocode_large.c122 A w0) (cuts_nil)) (fun x => by kernel_rfl)

/-! ### 15 bluebell/lex.Quote -/
def Glex_Quote.l122 : Nat → ByteArray → (List D) → Int → Int → ((ByteArray × List D) → Option (ByteArray × Int)) → Option (ByteArray × Int)
  | 0, _, _, _, _, _ => none
  | k + 1, v0, v4, v10, v11, κ1 =>
    bif decide (v11 < v10) then gd (inB v11 v0.size) ((Gstrings_IndexByte.f str0a092a22 (bt v0 v11.toNat)).bind fun r2 => bif decide (r2 ≥ 0) then (GBuilder_WriteByte.f v4 42).bind fun r3 => gd (inB r2 str6e742a22.size) ((GBuilder_WriteByte.f r3.2 (bt str6e742a22 r2.toNat)).bind fun r4 => Glex_Quote.l122 k v0 r4.2 v10 (IntKind.i64.wrap (v11 + 1)) κ1) else bif ((decide ((bt v0 v11.toNat) < 32)) || (decide ((bt v0 v11.toNat) > 126))) then some (strNil, 3) else (GBuilder_WriteByte.f v4 (bt v0 v11.toNat)).bind fun r5 => Glex_Quote.l122 k v0 r5.2 v10 (IntKind.i64.wrap (v11 + 1)) κ1) else κ1 (v0, v4)
def Glex_Quote.f (a0 : ByteArray) : Option (ByteArray × Int) :=
  (GBuilder_WriteByte.f [] 34).bind fun r1 => Glex_Quote.l122 NN a0 r1.2 (a0.size : Int) 0 (fun y6 => bif decide ((y6.1.size : Int) > 100) then some (strNil, 2) else (GBuilder_WriteByte.f y6.2 34).bind fun r7 => (GBuilder_String.f r7.2).bind fun r8 => some (r8.1, 0))
def Glex_Quote.pk : List FK := [.str]
def Glex_Quote.rk : List FK := [.str, .int .i64]
def Glex_Quote.g : Tp Glex_Quote.pk → Option (Tp Glex_Quote.rk) := fun x => Glex_Quote.f x
def Glex_Quote.ρ : List (Entry (Tp Glex_Quote.rk)) := [entryIO _ Tryd.prog 14 GBuilder_WriteByte.pk GBuilder_WriteByte.rk [0] GBuilder_WriteByte.g, entry _ Tryd.prog 29 Gstrings_IndexByte.pk Gstrings_IndexByte.rk Gstrings_IndexByte.g, entryIO _ Tryd.prog 19 GBuilder_String.pk GBuilder_String.rk [0] GBuilder_String.g]
theorem Glex_Quote.hρ : ∀ e ∈ Glex_Quote.ρ, EntryOk Tryd.prog e :=
  ents_cons (entIO (fn := Tryd.f14) GBuilder_WriteByte.spec (by kernel_rfl) (by kernel_rfl) (by kernel_rfl) (by kernel_rfl)) (ents_cons (ent (fn := Tryd.f29) Gstrings_IndexByte.spec (by kernel_rfl) (by kernel_rfl) (by kernel_rfl) (by kernel_rfl)) (ents_cons (entIO (fn := Tryd.f19) GBuilder_String.spec (by kernel_rfl) (by kernel_rfl) (by kernel_rfl) (by kernel_rfl)) (ents_nil)))
def Glex_Quote.fr122 : Fr := [(0, .str), (4, .bd 43 (.own 5)), (10, .int .i64), (11, .int .i64)]
def Glex_Quote.ou122 : Outs := [(1, [(0, .str), (4, .bd 43 (.own 5))])]
def Glex_Quote.T122 (k : Nat) (x : Glex_Quote.fr122.T) (κ : Kp (Tp Glex_Quote.rk) Glex_Quote.ou122) : Option (Tp Glex_Quote.rk) := Glex_Quote.l122 k x.1 x.2.1 x.2.2.1 x.2.2.2 κ.1
def Glex_Quote.Λ0 : Cuts (Tp Glex_Quote.rk) := cutsOf []
def Glex_Quote.Λ : Cuts (Tp Glex_Quote.rk) := cutsOf [(122, cut Tryd.prog Glex_Quote.fr122 Glex_Quote.ou122 (Glex_Quote.T122 NN))]
theorem Glex_Quote.c122 (A : Ks) (w0 : World) : CutOk Tryd.prog ⟨Tryd.f15.ntmps, 0, A⟩ w0 (kRet Tryd.prog Tryd.f15.results.toList Glex_Quote.rk) (bodyOf Tryd.f15) 122 (cut Tryd.prog Glex_Quote.fr122 Glex_Quote.ou122 (Glex_Quote.T122 NN)) :=
  loop_ok Glex_Quote.hρ (Λ := Glex_Quote.Λ0) (cuts_nil) (by kernel_rfl) (D := 64) (b := loopOf Tryd.f15 122) (by kernel_rfl) (by kernel_rfl) NN (fun x κ => by kernel_rfl) (fun k x κ => by kernel_rfl)
theorem Glex_Quote.spec : Spec Tryd.prog 15 Glex_Quote.pk Glex_Quote.rk Glex_Quote.g :=
  spec_of_body (fn := Tryd.f15) (c := bodyOf Tryd.f15) (by kernel_rfl) (by kernel_rfl) (by kernel_rfl) (by kernel_rfl) (ρ := Glex_Quote.ρ) Glex_Quote.hρ (Λ := Glex_Quote.Λ) (fun A w0 => cuts_cons (Glex_Quote.c122 A w0) (cuts_nil)) (fun x => by kernel_rfl)

/-! ### 17 bluebell/ocode.kinds -/
def Gocode_kinds.f : Option (List D) :=
  gd (Nat.beq (([.r [.s ByteArray.empty, .i 0, .i 0, .i 0], .r [.s str6e756d, .i 1, .i 0, .i 1], .r [.s str6c6f63616c, .i 2, .i 0, .i 1], .r [.s str7075746c, .i 2, .i 1, .i 0], .r [.s str616464726c, .i 2, .i 0, .i 1], .r [.s str676c6f62616c, .i 3, .i 0, .i 1], .r [.s str70757467, .i 3, .i 1, .i 0], .r [.s str6164647267, .i 3, .i 0, .i 1], .r [.s str737461746963, .i 4, .i 0, .i 1], .r [.s str70757473, .i 4, .i 1, .i 0], .r [.s str6164647273, .i 4, .i 0, .i 1], .r [.s str70726f63, .i 5, .i 0, .i 1], .r [.s str6c6f6164, .i 0, .i 1, .i 1], .r [.s str73746f7265, .i 0, .i 2, .i 0], .r [.s str67657462, .i 0, .i 2, .i 1], .r [.s str70757462, .i 0, .i 3, .i 0], .r [.s str62696e, .i 7, .i 2, .i 1], .r [.s str756e, .i 8, .i 1, .i 1], .r [.s str737461636b, .i 2, .i 0, .i 0], .r [.s str6c6162656c, .i 6, .i 0, .i 0], .r [.s str6a756d70, .i 6, .i 0, .i 0], .r [.s str74727565, .i 6, .i 1, .i 0], .r [.s str66616c7365, .i 6, .i 1, .i 0], .r [.s str63616c6c, .i 2, .i 0, .i 0], .r [.s str656e746572, .i 5, .i 0, .i 0], .r [.s str72657475726e, .i 0, .i 1, .i 0], .r [.s str6261636b, .i 0, .i 0, .i 0], .r [.s str726573756c74, .i 6, .i 1, .i 0], .r [.s str74616b65, .i 2, .i 0, .i 0], .r [.s str737769746368, .i 6, .i 1, .i 0], .r [.s str63617365, .i 1, .i 0, .i 0]]) : List D).length ((List.replicate 31 (.r [.s ByteArray.empty, .i 0, .i 0, .i 0] : D)) : List D).length && Nat.beq (([.r [.s ByteArray.empty, .i 0, .i 0, .i 0], .r [.s str6e756d, .i 1, .i 0, .i 1], .r [.s str6c6f63616c, .i 2, .i 0, .i 1], .r [.s str7075746c, .i 2, .i 1, .i 0], .r [.s str616464726c, .i 2, .i 0, .i 1], .r [.s str676c6f62616c, .i 3, .i 0, .i 1], .r [.s str70757467, .i 3, .i 1, .i 0], .r [.s str6164647267, .i 3, .i 0, .i 1], .r [.s str737461746963, .i 4, .i 0, .i 1], .r [.s str70757473, .i 4, .i 1, .i 0], .r [.s str6164647273, .i 4, .i 0, .i 1], .r [.s str70726f63, .i 5, .i 0, .i 1], .r [.s str6c6f6164, .i 0, .i 1, .i 1], .r [.s str73746f7265, .i 0, .i 2, .i 0], .r [.s str67657462, .i 0, .i 2, .i 1], .r [.s str70757462, .i 0, .i 3, .i 0], .r [.s str62696e, .i 7, .i 2, .i 1], .r [.s str756e, .i 8, .i 1, .i 1], .r [.s str737461636b, .i 2, .i 0, .i 0], .r [.s str6c6162656c, .i 6, .i 0, .i 0], .r [.s str6a756d70, .i 6, .i 0, .i 0], .r [.s str74727565, .i 6, .i 1, .i 0], .r [.s str66616c7365, .i 6, .i 1, .i 0], .r [.s str63616c6c, .i 2, .i 0, .i 0], .r [.s str656e746572, .i 5, .i 0, .i 0], .r [.s str72657475726e, .i 0, .i 1, .i 0], .r [.s str6261636b, .i 0, .i 0, .i 0], .r [.s str726573756c74, .i 6, .i 1, .i 0], .r [.s str74616b65, .i 2, .i 0, .i 0], .r [.s str737769746368, .i 6, .i 1, .i 0], .r [.s str63617365, .i 1, .i 0, .i 0]]) : List D).length 31) (some ([.r [.s ByteArray.empty, .i 0, .i 0, .i 0], .r [.s str6e756d, .i 1, .i 0, .i 1], .r [.s str6c6f63616c, .i 2, .i 0, .i 1], .r [.s str7075746c, .i 2, .i 1, .i 0], .r [.s str616464726c, .i 2, .i 0, .i 1], .r [.s str676c6f62616c, .i 3, .i 0, .i 1], .r [.s str70757467, .i 3, .i 1, .i 0], .r [.s str6164647267, .i 3, .i 0, .i 1], .r [.s str737461746963, .i 4, .i 0, .i 1], .r [.s str70757473, .i 4, .i 1, .i 0], .r [.s str6164647273, .i 4, .i 0, .i 1], .r [.s str70726f63, .i 5, .i 0, .i 1], .r [.s str6c6f6164, .i 0, .i 1, .i 1], .r [.s str73746f7265, .i 0, .i 2, .i 0], .r [.s str67657462, .i 0, .i 2, .i 1], .r [.s str70757462, .i 0, .i 3, .i 0], .r [.s str62696e, .i 7, .i 2, .i 1], .r [.s str756e, .i 8, .i 1, .i 1], .r [.s str737461636b, .i 2, .i 0, .i 0], .r [.s str6c6162656c, .i 6, .i 0, .i 0], .r [.s str6a756d70, .i 6, .i 0, .i 0], .r [.s str74727565, .i 6, .i 1, .i 0], .r [.s str66616c7365, .i 6, .i 1, .i 0], .r [.s str63616c6c, .i 2, .i 0, .i 0], .r [.s str656e746572, .i 5, .i 0, .i 0], .r [.s str72657475726e, .i 0, .i 1, .i 0], .r [.s str6261636b, .i 0, .i 0, .i 0], .r [.s str726573756c74, .i 6, .i 1, .i 0], .r [.s str74616b65, .i 2, .i 0, .i 0], .r [.s str737769746368, .i 6, .i 1, .i 0], .r [.s str63617365, .i 1, .i 0, .i 0]]))
def Gocode_kinds.pk : List FK := []
def Gocode_kinds.rk : List FK := [.parr 57]
def Gocode_kinds.g : Tp Gocode_kinds.pk → Option (Tp Gocode_kinds.rk) := fun _ => Gocode_kinds.f
def Gocode_kinds.ρ : List (Entry (Tp Gocode_kinds.rk)) := []
theorem Gocode_kinds.hρ : ∀ e ∈ Gocode_kinds.ρ, EntryOk Tryd.prog e :=
  ents_nil
def Gocode_kinds.Λ : Cuts (Tp Gocode_kinds.rk) := cutsOf []
theorem Gocode_kinds.spec : Spec Tryd.prog 17 Gocode_kinds.pk Gocode_kinds.rk Gocode_kinds.g :=
  spec_of_body (fn := Tryd.f17) (c := bodyOf Tryd.f17) (by kernel_rfl) (by kernel_rfl) (by kernel_rfl) (by kernel_rfl) (ρ := Gocode_kinds.ρ) Gocode_kinds.hρ (Λ := Gocode_kinds.Λ) (fun A w0 => cuts_nil) (fun x => by kernel_rfl)

/-! ### 61 bluebell/ocode.in -/
def Gocode_in.f (a0 : Int) (a1 : Int) (a2 : Int) : Option Bool :=
  some ((decide (a0 ≥ a1)) && (decide (a0 ≤ a2)))
def Gocode_in.pk : List FK := [.int .i64, .int .i64, .int .i64]
def Gocode_in.rk : List FK := [.bool]
def Gocode_in.g : Tp Gocode_in.pk → Option (Tp Gocode_in.rk) := fun x => Gocode_in.f x.1 x.2.1 x.2.2
def Gocode_in.ρ : List (Entry (Tp Gocode_in.rk)) := []
theorem Gocode_in.hρ : ∀ e ∈ Gocode_in.ρ, EntryOk Tryd.prog e :=
  ents_nil
def Gocode_in.Λ : Cuts (Tp Gocode_in.rk) := cutsOf []
theorem Gocode_in.spec : Spec Tryd.prog 61 Gocode_in.pk Gocode_in.rk Gocode_in.g :=
  spec_of_body (fn := Tryd.f61) (c := bodyOf Tryd.f61) (by kernel_rfl) (by kernel_rfl) (by kernel_rfl) (by kernel_rfl) (ρ := Gocode_in.ρ) Gocode_in.hρ (Λ := Gocode_in.Λ) (fun A w0 => cuts_nil) (fun x => by kernel_rfl)

/-! ### 60 bluebell/ocode.wide -/
def Gocode_wide.f (a0 : Int) : Option Bool :=
  (Gocode_in.f a0 (-2147483648) 2147483647).bind fun r1 => some r1
def Gocode_wide.pk : List FK := [.int .i64]
def Gocode_wide.rk : List FK := [.bool]
def Gocode_wide.g : Tp Gocode_wide.pk → Option (Tp Gocode_wide.rk) := fun x => Gocode_wide.f x
def Gocode_wide.ρ : List (Entry (Tp Gocode_wide.rk)) := [entry _ Tryd.prog 61 Gocode_in.pk Gocode_in.rk Gocode_in.g]
theorem Gocode_wide.hρ : ∀ e ∈ Gocode_wide.ρ, EntryOk Tryd.prog e :=
  ents_cons (ent (fn := Tryd.f61) Gocode_in.spec (by kernel_rfl) (by kernel_rfl) (by kernel_rfl) (by kernel_rfl)) (ents_nil)
def Gocode_wide.Λ : Cuts (Tp Gocode_wide.rk) := cutsOf []
theorem Gocode_wide.spec : Spec Tryd.prog 60 Gocode_wide.pk Gocode_wide.rk Gocode_wide.g :=
  spec_of_body (fn := Tryd.f60) (c := bodyOf Tryd.f60) (by kernel_rfl) (by kernel_rfl) (by kernel_rfl) (by kernel_rfl) (ρ := Gocode_wide.ρ) Gocode_wide.hρ (Λ := Gocode_wide.Λ) (fun A w0 => cuts_nil) (fun x => by kernel_rfl)

/-! ### 41 bluebell/ocode.numbers -/
def Gocode_numbers.p15 (v3 : D) (v4 : D) (v7 : Bool) : Option Bool :=
  bif (((v3.cell 0).int) == 24) then (bif v7 then Gocode_in.f ((v3.cell 2).int) 0 8 else some false).bind fun r1 => some (v7 && r1) else bif (((v3.cell 0).int) == 29) then (bif v7 then Gocode_in.f ((v3.cell 2).int) 0 1000 else some false).bind fun r2 => some (v7 && r2) else bif (((v3.cell 0).int) == 30) then (bif v7 then Gocode_in.f ((v3.cell 2).int) 1 ((v4.cell 5).int) else some false).bind fun r3 => some (v7 && r3) else some (v7 && (((v3.cell 2).int) == 0))
def Gocode_numbers.f (a0 : D) (a1 : D) (a2 : D) : Option Bool :=
  bif (((a2.cell 1).int) == 0) then Gocode_numbers.p15 a0 a1 (((a0.cell 1).int) == 0) else bif (((a2.cell 1).int) == 1) then (Gocode_wide.f ((a0.cell 1).int)).bind fun r4 => Gocode_numbers.p15 a0 a1 r4 else bif (((a2.cell 1).int) == 2) then (Gocode_in.f ((a0.cell 1).int) 0 4000).bind fun r5 => Gocode_numbers.p15 a0 a1 r5 else bif (((a2.cell 1).int) == 3) then (Gocode_in.f ((a0.cell 1).int) 0 199).bind fun r6 => Gocode_numbers.p15 a0 a1 r6 else bif (((a2.cell 1).int) == 4) then (Gocode_in.f ((a0.cell 1).int) 0 (IntKind.i64.wrap ((((a1.cell 1).list).length : Int) - 1))).bind fun r7 => Gocode_numbers.p15 a0 a1 r7 else bif (((a2.cell 1).int) == 5) then (Gocode_in.f ((a0.cell 1).int) 1 ((a1.cell 4).int)).bind fun r8 => Gocode_numbers.p15 a0 a1 r8 else bif (((a2.cell 1).int) == 6) then (Gocode_in.f ((a0.cell 1).int) 1 ((a1.cell 5).int)).bind fun r9 => Gocode_numbers.p15 a0 a1 r9 else bif (((a2.cell 1).int) == 7) then (Gocode_in.f ((a0.cell 1).int) 1 17).bind fun r10 => Gocode_numbers.p15 a0 a1 r10 else bif (((a2.cell 1).int) == 8) then Gocode_numbers.p15 a0 a1 ((((a0.cell 1).int) == 18) || (((a0.cell 1).int) == 19)) else Gocode_numbers.p15 a0 a1 false
def Gocode_numbers.pk : List FK := [.st 34, .st 26, .st 57]
def Gocode_numbers.rk : List FK := [.bool]
def Gocode_numbers.g : Tp Gocode_numbers.pk → Option (Tp Gocode_numbers.rk) := fun x => Gocode_numbers.f x.1 x.2.1 x.2.2
def Gocode_numbers.ρ : List (Entry (Tp Gocode_numbers.rk)) := [entry _ Tryd.prog 61 Gocode_in.pk Gocode_in.rk Gocode_in.g, entry _ Tryd.prog 60 Gocode_wide.pk Gocode_wide.rk Gocode_wide.g]
theorem Gocode_numbers.hρ : ∀ e ∈ Gocode_numbers.ρ, EntryOk Tryd.prog e :=
  ents_cons (ent (fn := Tryd.f61) Gocode_in.spec (by kernel_rfl) (by kernel_rfl) (by kernel_rfl) (by kernel_rfl)) (ents_cons (ent (fn := Tryd.f60) Gocode_wide.spec (by kernel_rfl) (by kernel_rfl) (by kernel_rfl) (by kernel_rfl)) (ents_nil))
def Gocode_numbers.fr15 : Fr := [(3, .bx (.st 34)), (4, .bx (.st 26)), (7, .bool)]
def Gocode_numbers.ou15 : Outs := []
def Gocode_numbers.T15 (x : Gocode_numbers.fr15.T) (κ : Kp (Tp Gocode_numbers.rk) Gocode_numbers.ou15) : Option (Tp Gocode_numbers.rk) := Gocode_numbers.p15 x.1 x.2.1 x.2.2
def Gocode_numbers.Λ0 : Cuts (Tp Gocode_numbers.rk) := cutsOf []
def Gocode_numbers.Λ : Cuts (Tp Gocode_numbers.rk) := cutsOf [(15, cut Tryd.prog Gocode_numbers.fr15 Gocode_numbers.ou15 (Gocode_numbers.T15))]
theorem Gocode_numbers.c15 (A : Ks) (w0 : World) : CutOk Tryd.prog ⟨Tryd.f41.ntmps, 0, A⟩ w0 (kRet Tryd.prog Tryd.f41.results.toList Gocode_numbers.rk) (bodyOf Tryd.f41) 15 (cut Tryd.prog Gocode_numbers.fr15 Gocode_numbers.ou15 (Gocode_numbers.T15)) :=
  cut_ok Gocode_numbers.hρ (Λ := Gocode_numbers.Λ0) (cuts_nil) (by kernel_rfl) (by kernel_rfl) (D := 64) (c := nodeOf Tryd.f41 15) (by kernel_rfl) (by kernel_rfl) (fun x κ => by kernel_rfl)
theorem Gocode_numbers.spec : Spec Tryd.prog 41 Gocode_numbers.pk Gocode_numbers.rk Gocode_numbers.g :=
  spec_of_body (fn := Tryd.f41) (c := bodyOf Tryd.f41) (by kernel_rfl) (by kernel_rfl) (by kernel_rfl) (by kernel_rfl) (ρ := Gocode_numbers.ρ) Gocode_numbers.hρ (Λ := Gocode_numbers.Λ) (fun A w0 => cuts_cons (Gocode_numbers.c15 A w0) (cuts_nil)) (fun x => by kernel_rfl)

/-! ### 42 bluebell/ocode.places -/
def Gocode_places.l122 : Nat → D → (List D) → (List D) → Int → Int → (List D) → Int → Int → ((D × List D × List D × Int × Int) → Option (List D × List D × Bool)) → Option (List D × List D × Bool)
  | 0, _, _, _, _, _, _, _, _, _ => none
  | k + 1, v1, v2, v3, v5, v6, v18, v19, v20, κ1 =>
    bif decide (v20 < v19) then gd (inB v20 v18.length) (bif ((((rd v18 v20.toNat).cell 0).int) == 24) then bif ((((rd v18 v20.toNat).cell 1).int) != (IntKind.i64.wrap (v5 + 1))) then some ([], [], false) else Gocode_places.l122 k v1 v2 v3 (IntKind.i64.wrap (v5 + 1)) v6 v18 v19 (IntKind.i64.wrap (v20 + 1)) κ1 else bif ((((rd v18 v20.toNat).cell 0).int) == 19) then gd (inB (((rd v18 v20.toNat).cell 1).int) v3.length) (gd (Nat.blt (((rd v18 v20.toNat).cell 1).int).toNat v3.length) (bif ((((rd v3 (((rd v18 v20.toNat).cell 1).int).toNat).int) != 0) || (v5 == 0)) then some ([], [], false) else gd (inB (((rd v18 v20.toNat).cell 1).int) v2.length) (gd (Nat.blt (((rd v18 v20.toNat).cell 1).int).toNat v2.length) (gd (inB (((rd v18 v20.toNat).cell 1).int) v3.length) (gd (Nat.blt (((rd v18 v20.toNat).cell 1).int).toNat v3.length) (Gocode_places.l122 k v1 (v2.set (((rd v18 v20.toNat).cell 1).int).toNat (.i v20)) (v3.set (((rd v18 v20.toNat).cell 1).int).toNat (.i v5)) v5 (if (((rd v18 v20.toNat).cell 1).int) > v6 then (((rd v18 v20.toNat).cell 1).int) else v6) v18 v19 (IntKind.i64.wrap (v20 + 1)) κ1)))))) else Gocode_places.l122 k v1 v2 v3 v5 v6 v18 v19 (IntKind.i64.wrap (v20 + 1)) κ1) else κ1 (v1, v2, v3, v5, v6)
def Gocode_places.f (a0 : D) : Option (List D × List D × Bool) :=
  gd (decide (0 ≤ (IntKind.i64.wrap (((a0.cell 5).int) + 1))) && decide ((IntKind.i64.wrap (((a0.cell 5).int) + 1)) ≤ (lim : Int))) (gd (decide (0 ≤ (IntKind.i64.wrap (((a0.cell 5).int) + 1))) && decide ((IntKind.i64.wrap (((a0.cell 5).int) + 1)) ≤ (lim : Int))) (Gocode_places.l122 NN a0 (List.replicate (IntKind.i64.wrap (((a0.cell 5).int) + 1)).toNat (.i 0 : D)) (List.replicate (IntKind.i64.wrap (((a0.cell 5).int) + 1)).toNat (.i 0 : D)) 0 0 ((a0.cell 2).list) (((a0.cell 2).list).length : Int) 0 (fun y1 => some (y1.2.1, y1.2.2.1, ((y1.2.2.2.1 == ((y1.1.cell 4).int)) && (y1.2.2.2.2 == ((y1.1.cell 5).int)))))))
def Gocode_places.pk : List FK := [.st 26]
def Gocode_places.rk : List FK := [.own 3, .own 3, .bool]
def Gocode_places.g : Tp Gocode_places.pk → Option (Tp Gocode_places.rk) := fun x => Gocode_places.f x
def Gocode_places.ρ : List (Entry (Tp Gocode_places.rk)) := []
theorem Gocode_places.hρ : ∀ e ∈ Gocode_places.ρ, EntryOk Tryd.prog e :=
  ents_nil
def Gocode_places.fr122 : Fr := [(1, .bx (.st 26)), (2, .own 3), (3, .own 3), (5, .int .i64), (6, .int .i64), (18, .sl 34), (19, .int .i64), (20, .int .i64)]
def Gocode_places.ou122 : Outs := [(1, [(1, .bx (.st 26)), (2, .own 3), (3, .own 3), (5, .int .i64), (6, .int .i64)])]
def Gocode_places.T122 (k : Nat) (x : Gocode_places.fr122.T) (κ : Kp (Tp Gocode_places.rk) Gocode_places.ou122) : Option (Tp Gocode_places.rk) := Gocode_places.l122 k x.1 x.2.1 x.2.2.1 x.2.2.2.1 x.2.2.2.2.1 x.2.2.2.2.2.1 x.2.2.2.2.2.2.1 x.2.2.2.2.2.2.2 κ.1
def Gocode_places.Λ0 : Cuts (Tp Gocode_places.rk) := cutsOf []
def Gocode_places.Λ : Cuts (Tp Gocode_places.rk) := cutsOf [(122, cut Tryd.prog Gocode_places.fr122 Gocode_places.ou122 (Gocode_places.T122 NN))]
theorem Gocode_places.c122 (A : Ks) (w0 : World) : CutOk Tryd.prog ⟨Tryd.f42.ntmps, 0, A⟩ w0 (kRet Tryd.prog Tryd.f42.results.toList Gocode_places.rk) (bodyOf Tryd.f42) 122 (cut Tryd.prog Gocode_places.fr122 Gocode_places.ou122 (Gocode_places.T122 NN)) :=
  loop_ok Gocode_places.hρ (Λ := Gocode_places.Λ0) (cuts_nil) (by kernel_rfl) (D := 64) (b := loopOf Tryd.f42 122) (by kernel_rfl) (by kernel_rfl) NN (fun x κ => by kernel_rfl) (fun k x κ => by kernel_rfl)
theorem Gocode_places.spec : Spec Tryd.prog 42 Gocode_places.pk Gocode_places.rk Gocode_places.g :=
  spec_of_body (fn := Tryd.f42) (c := bodyOf Tryd.f42) (by kernel_rfl) (by kernel_rfl) (by kernel_rfl) (by kernel_rfl) (ρ := Gocode_places.ρ) Gocode_places.hρ (Λ := Gocode_places.Λ) (fun A w0 => cuts_cons (Gocode_places.c122 A w0) (cuts_nil)) (fun x => by kernel_rfl)

/-! ### 48 bluebell/ocode.Ends -/
def Gocode_Ends.p53 (v0 : List D) (v1 : Int) (v9 : Int) (v10 : Bool) (κ0 : Unit → Option Bool) : Option Bool :=
  bif v10 then some true else bif (v9 == 29) then gd (inB v1 v0.length) (some ((((rd v0 v1.toNat).cell 2).int) == 0)) else bif (v9 == 30) then gd ((!(!((IntKind.i64.wrap (v1 + 1)) == (v0.length : Int)))) || (inB (IntKind.i64.wrap (v1 + 1)) v0.length)) (some (((IntKind.i64.wrap (v1 + 1)) == (v0.length : Int)) || ((((rd v0 (IntKind.i64.wrap (v1 + 1)).toNat).cell 0).int) != 30))) else κ0 ()
def Gocode_Ends.f (a0 : List D) (a1 : Int) : Option Bool :=
  gd (inB a1 a0.length) (bif ((((rd a0 a1.toNat).cell 0).int) == 20) then Gocode_Ends.p53 a0 a1 (((rd a0 a1.toNat).cell 0).int) ((((rd a0 a1.toNat).cell 0).int) == 20) (fun y1 => some false) else bif ((((rd a0 a1.toNat).cell 0).int) == 25) then Gocode_Ends.p53 a0 a1 (((rd a0 a1.toNat).cell 0).int) ((((rd a0 a1.toNat).cell 0).int) == 25) (fun y2 => some false) else bif ((((rd a0 a1.toNat).cell 0).int) == 26) then Gocode_Ends.p53 a0 a1 (((rd a0 a1.toNat).cell 0).int) ((((rd a0 a1.toNat).cell 0).int) == 26) (fun y3 => some false) else Gocode_Ends.p53 a0 a1 (((rd a0 a1.toNat).cell 0).int) ((((rd a0 a1.toNat).cell 0).int) == 27) (fun y4 => some false))
def Gocode_Ends.pk : List FK := [.sl 34, .int .i64]
def Gocode_Ends.rk : List FK := [.bool]
def Gocode_Ends.g : Tp Gocode_Ends.pk → Option (Tp Gocode_Ends.rk) := fun x => Gocode_Ends.f x.1 x.2
def Gocode_Ends.ρ : List (Entry (Tp Gocode_Ends.rk)) := []
theorem Gocode_Ends.hρ : ∀ e ∈ Gocode_Ends.ρ, EntryOk Tryd.prog e :=
  ents_nil
def Gocode_Ends.fr53 : Fr := [(0, .sl 34), (1, .int .i64), (9, .int .i64), (10, .bool)]
def Gocode_Ends.ou53 : Outs := [(0, [])]
def Gocode_Ends.T53 (x : Gocode_Ends.fr53.T) (κ : Kp (Tp Gocode_Ends.rk) Gocode_Ends.ou53) : Option (Tp Gocode_Ends.rk) := Gocode_Ends.p53 x.1 x.2.1 x.2.2.1 x.2.2.2 κ.1
def Gocode_Ends.Λ0 : Cuts (Tp Gocode_Ends.rk) := cutsOf []
def Gocode_Ends.Λ : Cuts (Tp Gocode_Ends.rk) := cutsOf [(53, cut Tryd.prog Gocode_Ends.fr53 Gocode_Ends.ou53 (Gocode_Ends.T53))]
theorem Gocode_Ends.c53 (A : Ks) (w0 : World) : CutOk Tryd.prog ⟨Tryd.f48.ntmps, 0, A⟩ w0 (kRet Tryd.prog Tryd.f48.results.toList Gocode_Ends.rk) (bodyOf Tryd.f48) 53 (cut Tryd.prog Gocode_Ends.fr53 Gocode_Ends.ou53 (Gocode_Ends.T53)) :=
  cut_ok Gocode_Ends.hρ (Λ := Gocode_Ends.Λ0) (cuts_nil) (by kernel_rfl) (by kernel_rfl) (D := 64) (c := nodeOf Tryd.f48 53) (by kernel_rfl) (by kernel_rfl) (fun x κ => by kernel_rfl)
theorem Gocode_Ends.spec : Spec Tryd.prog 48 Gocode_Ends.pk Gocode_Ends.rk Gocode_Ends.g :=
  spec_of_body (fn := Tryd.f48) (c := bodyOf Tryd.f48) (by kernel_rfl) (by kernel_rfl) (by kernel_rfl) (by kernel_rfl) (ρ := Gocode_Ends.ρ) Gocode_Ends.hρ (Λ := Gocode_Ends.Λ) (fun A w0 => cuts_cons (Gocode_Ends.c53 A w0) (cuts_nil)) (fun x => by kernel_rfl)

/-! ### 43 bluebell/ocode.order -/
def Gocode_order.l215378 : Nat → (List D) → Int → Int → Int → ((List D × Int) → Option Bool) → Option Bool
  | 0, _, _, _, _, _ => none
  | k + 1, v0, v3, v28, v29, κ4 =>
    bif decide (v29 < v28) then gd ((!(!(decide ((IntKind.i64.wrap ((IntKind.i64.wrap (v3 + 1)) + v29)) ≥ (v0.length : Int))))) || (inB (IntKind.i64.wrap ((IntKind.i64.wrap (v3 + 1)) + v29)) v0.length)) (bif ((decide ((IntKind.i64.wrap ((IntKind.i64.wrap (v3 + 1)) + v29)) ≥ (v0.length : Int))) || ((((rd v0 (IntKind.i64.wrap ((IntKind.i64.wrap (v3 + 1)) + v29)).toNat).cell 0).int) != 30)) then some false else Gocode_order.l215378 k v0 v3 v28 (IntKind.i64.wrap (v29 + 1)) κ4) else κ4 (v0, v3)
def Gocode_order.p1683 (v0 : List D) (v3 : Int) (v4 : Bool) (κ0 : (List D × Int) → Option Bool) : Option Bool :=
  gd ((!(!v4)) || (inB (IntKind.i64.wrap (v3 + 1)) v0.length)) ((bif (v4 || ((((rd v0 (IntKind.i64.wrap (v3 + 1)).toNat).cell 0).int) == 24)) then Gocode_Ends.f v0 v3 else some false).bind fun r2 => bif ((v4 || ((((rd v0 (IntKind.i64.wrap (v3 + 1)).toNat).cell 0).int) == 24)) && (!r2)) then some false else κ0 (v0, v3))
def Gocode_order.l26 : Nat → (List D) → Int → (List D → Option Bool) → Option Bool
  | 0, _, _, _ => none
  | k + 1, v0, v3, κ1 =>
    bif decide (v3 < (v0.length : Int)) then gd (inB v3 v0.length) (bif ((((rd v0 v3.toNat).cell 0).int) == 29) then gd (inB v3 v0.length) (Gocode_order.l215378 NN v0 v3 (((rd v0 v3.toNat).cell 2).int) 0 (fun y1 => gd (inB y1.2 y1.1.length) (gd ((!(!((IntKind.i64.wrap ((IntKind.i64.wrap (y1.2 + (((rd y1.1 y1.2.toNat).cell 2).int))) + 1)) == (y1.1.length : Int)))) || (inB (IntKind.i64.wrap ((IntKind.i64.wrap (y1.2 + (((rd y1.1 y1.2.toNat).cell 2).int))) + 1)) y1.1.length)) (bif ((!((IntKind.i64.wrap ((IntKind.i64.wrap (y1.2 + (((rd y1.1 y1.2.toNat).cell 2).int))) + 1)) == (y1.1.length : Int))) && ((((rd y1.1 (IntKind.i64.wrap ((IntKind.i64.wrap (y1.2 + (((rd y1.1 y1.2.toNat).cell 2).int))) + 1)).toNat).cell 0).int) == 30)) then some false else Gocode_order.p1683 y1.1 (IntKind.i64.wrap (y1.2 + (((rd y1.1 y1.2.toNat).cell 2).int))) ((IntKind.i64.wrap ((IntKind.i64.wrap (y1.2 + (((rd y1.1 y1.2.toNat).cell 2).int))) + 1)) == (y1.1.length : Int)) (fun y3 => Gocode_order.l26 k y3.1 (IntKind.i64.wrap (y3.2 + 1)) κ1))))) else bif ((((rd v0 v3.toNat).cell 0).int) == 30) then some false else bif ((((rd v0 v3.toNat).cell 0).int) == 19) then gd ((!(!((IntKind.i64.wrap (v3 + 1)) == (v0.length : Int)))) || (inB (IntKind.i64.wrap (v3 + 1)) v0.length)) (gd ((!((!((IntKind.i64.wrap (v3 + 1)) == (v0.length : Int))) && ((((rd v0 (IntKind.i64.wrap (v3 + 1)).toNat).cell 0).int) != 18))) || (inB (IntKind.i64.wrap (v3 + 1)) v0.length)) (gd ((!((!((IntKind.i64.wrap (v3 + 1)) == (v0.length : Int))) && (((((rd v0 (IntKind.i64.wrap (v3 + 1)).toNat).cell 0).int) != 18) && ((((rd v0 (IntKind.i64.wrap (v3 + 1)).toNat).cell 0).int) != 28)))) || (inB (IntKind.i64.wrap (v3 + 1)) v0.length)) (bif (((IntKind.i64.wrap (v3 + 1)) == (v0.length : Int)) || ((((((rd v0 (IntKind.i64.wrap (v3 + 1)).toNat).cell 0).int) != 18) && ((((rd v0 (IntKind.i64.wrap (v3 + 1)).toNat).cell 0).int) != 28)) && ((((rd v0 (IntKind.i64.wrap (v3 + 1)).toNat).cell 0).int) != 19))) then some false else Gocode_order.p1683 v0 v3 ((IntKind.i64.wrap (v3 + 1)) == (v0.length : Int)) (fun y4 => Gocode_order.l26 k y4.1 (IntKind.i64.wrap (y4.2 + 1)) κ1)))) else Gocode_order.p1683 v0 v3 ((IntKind.i64.wrap (v3 + 1)) == (v0.length : Int)) (fun y5 => Gocode_order.l26 k y5.1 (IntKind.i64.wrap (y5.2 + 1)) κ1)) else κ1 v0
def Gocode_order.f (a0 : List D) : Option Bool :=
  Gocode_order.l26 NN a0 0 (fun y6 => gd ((!(!((y6.length : Int) == 0))) || (inB 0 y6.length)) (some (((y6.length : Int) == 0) || ((((rd y6 0).cell 0).int) == 24))))
def Gocode_order.pk : List FK := [.sl 34]
def Gocode_order.rk : List FK := [.bool]
def Gocode_order.g : Tp Gocode_order.pk → Option (Tp Gocode_order.rk) := fun x => Gocode_order.f x
def Gocode_order.ρ : List (Entry (Tp Gocode_order.rk)) := [entry _ Tryd.prog 48 Gocode_Ends.pk Gocode_Ends.rk Gocode_Ends.g]
theorem Gocode_order.hρ : ∀ e ∈ Gocode_order.ρ, EntryOk Tryd.prog e :=
  ents_cons (ent (fn := Tryd.f48) Gocode_Ends.spec (by kernel_rfl) (by kernel_rfl) (by kernel_rfl) (by kernel_rfl)) (ents_nil)
def Gocode_order.fr215378 : Fr := [(0, .sl 34), (3, .int .i64), (28, .int .i64), (29, .int .i64)]
def Gocode_order.ou215378 : Outs := [(4, [(0, .sl 34), (3, .int .i64)])]
def Gocode_order.T215378 (k : Nat) (x : Gocode_order.fr215378.T) (κ : Kp (Tp Gocode_order.rk) Gocode_order.ou215378) : Option (Tp Gocode_order.rk) := Gocode_order.l215378 k x.1 x.2.1 x.2.2.1 x.2.2.2 κ.1
def Gocode_order.fr1683 : Fr := [(0, .sl 34), (3, .int .i64), (4, .bool)]
def Gocode_order.ou1683 : Outs := [(0, [(0, .sl 34), (3, .int .i64)])]
def Gocode_order.T1683 (x : Gocode_order.fr1683.T) (κ : Kp (Tp Gocode_order.rk) Gocode_order.ou1683) : Option (Tp Gocode_order.rk) := Gocode_order.p1683 x.1 x.2.1 x.2.2 κ.1
def Gocode_order.fr26 : Fr := [(0, .sl 34), (3, .int .i64)]
def Gocode_order.ou26 : Outs := [(1, [(0, .sl 34)])]
def Gocode_order.T26 (k : Nat) (x : Gocode_order.fr26.T) (κ : Kp (Tp Gocode_order.rk) Gocode_order.ou26) : Option (Tp Gocode_order.rk) := Gocode_order.l26 k x.1 x.2 κ.1
def Gocode_order.Λ0 : Cuts (Tp Gocode_order.rk) := cutsOf []
def Gocode_order.Λ1 : Cuts (Tp Gocode_order.rk) := cutsOf [(215378, cut Tryd.prog Gocode_order.fr215378 Gocode_order.ou215378 (Gocode_order.T215378 NN))]
def Gocode_order.Λ2 : Cuts (Tp Gocode_order.rk) := cutsOf [(1683, cut Tryd.prog Gocode_order.fr1683 Gocode_order.ou1683 (Gocode_order.T1683)), (215378, cut Tryd.prog Gocode_order.fr215378 Gocode_order.ou215378 (Gocode_order.T215378 NN))]
def Gocode_order.Λ : Cuts (Tp Gocode_order.rk) := cutsOf [(26, cut Tryd.prog Gocode_order.fr26 Gocode_order.ou26 (Gocode_order.T26 NN)), (1683, cut Tryd.prog Gocode_order.fr1683 Gocode_order.ou1683 (Gocode_order.T1683)), (215378, cut Tryd.prog Gocode_order.fr215378 Gocode_order.ou215378 (Gocode_order.T215378 NN))]
theorem Gocode_order.c215378 (A : Ks) (w0 : World) : CutOk Tryd.prog ⟨Tryd.f43.ntmps, 0, A⟩ w0 (kRet Tryd.prog Tryd.f43.results.toList Gocode_order.rk) (bodyOf Tryd.f43) 215378 (cut Tryd.prog Gocode_order.fr215378 Gocode_order.ou215378 (Gocode_order.T215378 NN)) :=
  loop_ok Gocode_order.hρ (Λ := Gocode_order.Λ0) (cuts_nil) (by kernel_rfl) (D := 64) (b := loopOf Tryd.f43 215378) (by kernel_rfl) (by kernel_rfl) NN (fun x κ => by kernel_rfl) (fun k x κ => by kernel_rfl)
theorem Gocode_order.c1683 (A : Ks) (w0 : World) : CutOk Tryd.prog ⟨Tryd.f43.ntmps, 0, A⟩ w0 (kRet Tryd.prog Tryd.f43.results.toList Gocode_order.rk) (bodyOf Tryd.f43) 1683 (cut Tryd.prog Gocode_order.fr1683 Gocode_order.ou1683 (Gocode_order.T1683)) :=
  cut_ok Gocode_order.hρ (Λ := Gocode_order.Λ1) (cuts_cons (Gocode_order.c215378 A w0) (cuts_nil)) (by kernel_rfl) (by kernel_rfl) (D := 64) (c := nodeOf Tryd.f43 1683) (by kernel_rfl) (by kernel_rfl) (fun x κ => by kernel_rfl)
theorem Gocode_order.c26 (A : Ks) (w0 : World) : CutOk Tryd.prog ⟨Tryd.f43.ntmps, 0, A⟩ w0 (kRet Tryd.prog Tryd.f43.results.toList Gocode_order.rk) (bodyOf Tryd.f43) 26 (cut Tryd.prog Gocode_order.fr26 Gocode_order.ou26 (Gocode_order.T26 NN)) :=
  loop_ok Gocode_order.hρ (Λ := Gocode_order.Λ2) (cuts_cons (Gocode_order.c1683 A w0) (cuts_cons (Gocode_order.c215378 A w0) (cuts_nil))) (by kernel_rfl) (D := 64) (b := loopOf Tryd.f43 26) (by kernel_rfl) (by kernel_rfl) NN (fun x κ => by kernel_rfl) (fun k x κ => by kernel_rfl)
theorem Gocode_order.spec : Spec Tryd.prog 43 Gocode_order.pk Gocode_order.rk Gocode_order.g :=
  spec_of_body (fn := Tryd.f43) (c := bodyOf Tryd.f43) (by kernel_rfl) (by kernel_rfl) (by kernel_rfl) (by kernel_rfl) (ρ := Gocode_order.ρ) Gocode_order.hρ (Λ := Gocode_order.Λ) (fun A w0 => cuts_cons (Gocode_order.c26 A w0) (cuts_cons (Gocode_order.c1683 A w0) (cuts_cons (Gocode_order.c215378 A w0) (cuts_nil)))) (fun x => by kernel_rfl)

/-! ### 63 bluebell/ocode.areas$1 -/
def Gocode_areas_1.f (a0 : Int) : Option Bool :=
  (Gocode_wide.f a0).bind fun r1 => some (!r1)
def Gocode_areas_1.pk : List FK := [.int .i64]
def Gocode_areas_1.rk : List FK := [.bool]
def Gocode_areas_1.g : Tp Gocode_areas_1.pk → Option (Tp Gocode_areas_1.rk) := fun x => Gocode_areas_1.f x
def Gocode_areas_1.ρ : List (Entry (Tp Gocode_areas_1.rk)) := [entry _ Tryd.prog 60 Gocode_wide.pk Gocode_wide.rk Gocode_wide.g]
theorem Gocode_areas_1.hρ : ∀ e ∈ Gocode_areas_1.ρ, EntryOk Tryd.prog e :=
  ents_cons (ent (fn := Tryd.f60) Gocode_wide.spec (by kernel_rfl) (by kernel_rfl) (by kernel_rfl) (by kernel_rfl)) (ents_nil)
def Gocode_areas_1.Λ : Cuts (Tp Gocode_areas_1.rk) := cutsOf []
theorem Gocode_areas_1.spec : Spec Tryd.prog 63 Gocode_areas_1.pk Gocode_areas_1.rk Gocode_areas_1.g :=
  spec_of_body (fn := Tryd.f63) (c := bodyOf Tryd.f63) (by kernel_rfl) (by kernel_rfl) (by kernel_rfl) (by kernel_rfl) (ρ := Gocode_areas_1.ρ) Gocode_areas_1.hρ (Λ := Gocode_areas_1.Λ) (fun A w0 => cuts_nil) (fun x => by kernel_rfl)

/-! ### (71, None, 63) slices.IndexFunc[[]int,int] -/
def Gslices_IndexFunc___int_int_63.l26 : Nat → (List D) → Unit → Int → Int → (Unit → Option Int) → Option Int
  | 0, _, _, _, _, _ => none
  | k + 1, v0, v1, v7, v8, κ1 =>
    bif decide (v8 < v7) then gd (inB v8 v0.length) ((Gocode_areas_1.f ((rd v0 v8.toNat).int)).bind fun r1 => bif r1 then some v8 else Gslices_IndexFunc___int_int_63.l26 k v0 () v7 (IntKind.i64.wrap (v8 + 1)) κ1) else κ1 ()
def Gslices_IndexFunc___int_int_63.f (a0 : List D) (a1 : Unit) : Option Int :=
  Gslices_IndexFunc___int_int_63.l26 NN a0 () (a0.length : Int) 0 (fun y2 => some (-1))
def Gslices_IndexFunc___int_int_63.pk : List FK := [.sl 3, .fn 63]
def Gslices_IndexFunc___int_int_63.rk : List FK := [.int .i64]
def Gslices_IndexFunc___int_int_63.g : Tp Gslices_IndexFunc___int_int_63.pk → Option (Tp Gslices_IndexFunc___int_int_63.rk) := fun x => Gslices_IndexFunc___int_int_63.f x.1 x.2
def Gslices_IndexFunc___int_int_63.ρ : List (Entry (Tp Gslices_IndexFunc___int_int_63.rk)) := [entry _ Tryd.prog 63 Gocode_areas_1.pk Gocode_areas_1.rk Gocode_areas_1.g]
theorem Gslices_IndexFunc___int_int_63.hρ : ∀ e ∈ Gslices_IndexFunc___int_int_63.ρ, EntryOk Tryd.prog e :=
  ents_cons (ent (fn := Tryd.f63) Gocode_areas_1.spec (by kernel_rfl) (by kernel_rfl) (by kernel_rfl) (by kernel_rfl)) (ents_nil)
def Gslices_IndexFunc___int_int_63.fr26 : Fr := [(0, .sl 3), (1, .fn 63), (7, .int .i64), (8, .int .i64)]
def Gslices_IndexFunc___int_int_63.ou26 : Outs := [(1, [])]
def Gslices_IndexFunc___int_int_63.T26 (k : Nat) (x : Gslices_IndexFunc___int_int_63.fr26.T) (κ : Kp (Tp Gslices_IndexFunc___int_int_63.rk) Gslices_IndexFunc___int_int_63.ou26) : Option (Tp Gslices_IndexFunc___int_int_63.rk) := Gslices_IndexFunc___int_int_63.l26 k x.1 x.2.1 x.2.2.1 x.2.2.2 κ.1
def Gslices_IndexFunc___int_int_63.Λ0 : Cuts (Tp Gslices_IndexFunc___int_int_63.rk) := cutsOf []
def Gslices_IndexFunc___int_int_63.Λ : Cuts (Tp Gslices_IndexFunc___int_int_63.rk) := cutsOf [(26, cut Tryd.prog Gslices_IndexFunc___int_int_63.fr26 Gslices_IndexFunc___int_int_63.ou26 (Gslices_IndexFunc___int_int_63.T26 NN))]
theorem Gslices_IndexFunc___int_int_63.c26 (A : Ks) (w0 : World) : CutOk Tryd.prog ⟨Tryd.f71.ntmps, 0, A⟩ w0 (kRet Tryd.prog Tryd.f71.results.toList Gslices_IndexFunc___int_int_63.rk) (bodyOf Tryd.f71) 26 (cut Tryd.prog Gslices_IndexFunc___int_int_63.fr26 Gslices_IndexFunc___int_int_63.ou26 (Gslices_IndexFunc___int_int_63.T26 NN)) :=
  loop_ok Gslices_IndexFunc___int_int_63.hρ (Λ := Gslices_IndexFunc___int_int_63.Λ0) (cuts_nil) (by kernel_rfl) (D := 64) (b := loopOf Tryd.f71 26) (by kernel_rfl) (by kernel_rfl) NN (fun x κ => by kernel_rfl) (fun k x κ => by kernel_rfl)
theorem Gslices_IndexFunc___int_int_63.spec : Spec Tryd.prog 71 Gslices_IndexFunc___int_int_63.pk Gslices_IndexFunc___int_int_63.rk Gslices_IndexFunc___int_int_63.g :=
  spec_of_body (fn := Tryd.f71) (c := bodyOf Tryd.f71) (by kernel_rfl) (by kernel_rfl) (by kernel_rfl) (by kernel_rfl) (ρ := Gslices_IndexFunc___int_int_63.ρ) Gslices_IndexFunc___int_int_63.hρ (Λ := Gslices_IndexFunc___int_int_63.Λ) (fun A w0 => cuts_cons (Gslices_IndexFunc___int_int_63.c26 A w0) (cuts_nil)) (fun x => by kernel_rfl)

/-! ### (62, None, 63) slices.ContainsFunc[[]int,int] -/
def Gslices_ContainsFunc___int_int_63.f (a0 : List D) (a1 : Unit) : Option Bool :=
  (Gslices_IndexFunc___int_int_63.f a0 ()).bind fun r1 => some (decide (r1 ≥ 0))
def Gslices_ContainsFunc___int_int_63.pk : List FK := [.sl 3, .fn 63]
def Gslices_ContainsFunc___int_int_63.rk : List FK := [.bool]
def Gslices_ContainsFunc___int_int_63.g : Tp Gslices_ContainsFunc___int_int_63.pk → Option (Tp Gslices_ContainsFunc___int_int_63.rk) := fun x => Gslices_ContainsFunc___int_int_63.f x.1 x.2
def Gslices_ContainsFunc___int_int_63.ρ : List (Entry (Tp Gslices_ContainsFunc___int_int_63.rk)) := [entry _ Tryd.prog 71 Gslices_IndexFunc___int_int_63.pk Gslices_IndexFunc___int_int_63.rk Gslices_IndexFunc___int_int_63.g]
theorem Gslices_ContainsFunc___int_int_63.hρ : ∀ e ∈ Gslices_ContainsFunc___int_int_63.ρ, EntryOk Tryd.prog e :=
  ents_cons (ent (fn := Tryd.f71) Gslices_IndexFunc___int_int_63.spec (by kernel_rfl) (by kernel_rfl) (by kernel_rfl) (by kernel_rfl)) (ents_nil)
def Gslices_ContainsFunc___int_int_63.Λ : Cuts (Tp Gslices_ContainsFunc___int_int_63.rk) := cutsOf []
theorem Gslices_ContainsFunc___int_int_63.spec : Spec Tryd.prog 62 Gslices_ContainsFunc___int_int_63.pk Gslices_ContainsFunc___int_int_63.rk Gslices_ContainsFunc___int_int_63.g :=
  spec_of_body (fn := Tryd.f62) (c := bodyOf Tryd.f62) (by kernel_rfl) (by kernel_rfl) (by kernel_rfl) (by kernel_rfl) (ρ := Gslices_ContainsFunc___int_int_63.ρ) Gslices_ContainsFunc___int_int_63.hρ (Λ := Gslices_ContainsFunc___int_int_63.Λ) (fun A w0 => cuts_nil) (fun x => by kernel_rfl)

/-! ### 44 bluebell/ocode.areas -/
def Gocode_areas.l26 : Nat → D → (List D) → Int → Int → (D → Option Bool) → Option Bool
  | 0, _, _, _, _, _ => none
  | k + 1, v1, v11, v12, v13, κ1 =>
    bif decide (v13 < v12) then gd (inB v13 v11.length) (bif ((rd v11 v13.toNat).cell 1).bool then (Glex_Quote.f (((rd v11 v13.toNat).cell 0).str)).bind fun r1 => bif ((r1.2 != 0) || (decide (((((rd v11 v13.toNat).cell 2).list).length : Int) > 0))) then some false else Gocode_areas.l26 k v1 v11 v12 (IntKind.i64.wrap (v13 + 1)) κ1 else (bif (!((!((((rd v11 v13.toNat).cell 0).str).toList == strNil.toList)) || (((((rd v11 v13.toNat).cell 2).list).length : Int) == 0))) then Gslices_ContainsFunc___int_int_63.f (((rd v11 v13.toNat).cell 2).list) () else some false).bind fun r2 => bif (((!((((rd v11 v13.toNat).cell 0).str).toList == strNil.toList)) || (((((rd v11 v13.toNat).cell 2).list).length : Int) == 0)) || r2) then some false else Gocode_areas.l26 k v1 v11 v12 (IntKind.i64.wrap (v13 + 1)) κ1) else κ1 v1
def Gocode_areas.l122 : Nat → D → (List (D × D)) → (List D) → Int → Int → (Unit → Option Bool) → Option Bool
  | 0, _, _, _, _, _, _ => none
  | k + 1, v1, v7, v50, v51, v52, κ3 =>
    bif decide (v52 < v51) then gd (inB v52 v50.length) ((Gocode_in.f (((rd v50 v52.toNat).cell 0).int) 1 199).bind fun r4 => gd ((!(!(!r4))) || (inK .i64 (((rd v50 v52.toNat).cell 0).int))) ((bif (!((!r4) || ((mget (K.int .i64) (.i (((rd v50 v52.toNat).cell 0).int)) (.b false) v7).bool))) then Gocode_in.f (((rd v50 v52.toNat).cell 1).int) 1 ((v1.cell 4).int) else some false).bind fun r5 => bif (((!r4) || ((mget (K.int .i64) (.i (((rd v50 v52.toNat).cell 0).int)) (.b false) v7).bool)) || (!r5)) then some false else gd ((inK .i64 (((rd v50 v52.toNat).cell 0).int)) && Nat.blt v7.length lim) (Gocode_areas.l122 k v1 ((.i (((rd v50 v52.toNat).cell 0).int), .b true) :: v7) v50 v51 (IntKind.i64.wrap (v52 + 1)) κ3))) else κ3 ()
def Gocode_areas.f (a0 : D) : Option Bool :=
  Gocode_areas.l26 NN a0 ((a0.cell 1).list) (((a0.cell 1).list).length : Int) 0 (fun y3 => Gocode_areas.l122 NN y3 ([] : List (D × D)) ((y3.cell 3).list) (((y3.cell 3).list).length : Int) 0 (fun y6 => some true))
def Gocode_areas.pk : List FK := [.st 26]
def Gocode_areas.rk : List FK := [.bool]
def Gocode_areas.g : Tp Gocode_areas.pk → Option (Tp Gocode_areas.rk) := fun x => Gocode_areas.f x
def Gocode_areas.ρ : List (Entry (Tp Gocode_areas.rk)) := [entry _ Tryd.prog 15 Glex_Quote.pk Glex_Quote.rk Glex_Quote.g, entry _ Tryd.prog 62 Gslices_ContainsFunc___int_int_63.pk Gslices_ContainsFunc___int_int_63.rk Gslices_ContainsFunc___int_int_63.g, entry _ Tryd.prog 61 Gocode_in.pk Gocode_in.rk Gocode_in.g]
theorem Gocode_areas.hρ : ∀ e ∈ Gocode_areas.ρ, EntryOk Tryd.prog e :=
  ents_cons (ent (fn := Tryd.f15) Glex_Quote.spec (by kernel_rfl) (by kernel_rfl) (by kernel_rfl) (by kernel_rfl)) (ents_cons (ent (fn := Tryd.f62) Gslices_ContainsFunc___int_int_63.spec (by kernel_rfl) (by kernel_rfl) (by kernel_rfl) (by kernel_rfl)) (ents_cons (ent (fn := Tryd.f61) Gocode_in.spec (by kernel_rfl) (by kernel_rfl) (by kernel_rfl) (by kernel_rfl)) (ents_nil)))
def Gocode_areas.fr26 : Fr := [(1, .bx (.st 26)), (11, .sl 52), (12, .int .i64), (13, .int .i64)]
def Gocode_areas.ou26 : Outs := [(1, [(1, .bx (.st 26))])]
def Gocode_areas.T26 (k : Nat) (x : Gocode_areas.fr26.T) (κ : Kp (Tp Gocode_areas.rk) Gocode_areas.ou26) : Option (Tp Gocode_areas.rk) := Gocode_areas.l26 k x.1 x.2.1 x.2.2.1 x.2.2.2 κ.1
def Gocode_areas.fr122 : Fr := [(1, .bx (.st 26)), (7, .mp 3 4), (50, .sl 55), (51, .int .i64), (52, .int .i64)]
def Gocode_areas.ou122 : Outs := [(3, [])]
def Gocode_areas.T122 (k : Nat) (x : Gocode_areas.fr122.T) (κ : Kp (Tp Gocode_areas.rk) Gocode_areas.ou122) : Option (Tp Gocode_areas.rk) := Gocode_areas.l122 k x.1 x.2.1 x.2.2.1 x.2.2.2.1 x.2.2.2.2 κ.1
def Gocode_areas.Λ0 : Cuts (Tp Gocode_areas.rk) := cutsOf []
def Gocode_areas.Λ1 : Cuts (Tp Gocode_areas.rk) := cutsOf [(26, cut Tryd.prog Gocode_areas.fr26 Gocode_areas.ou26 (Gocode_areas.T26 NN))]
def Gocode_areas.Λ : Cuts (Tp Gocode_areas.rk) := cutsOf [(122, cut Tryd.prog Gocode_areas.fr122 Gocode_areas.ou122 (Gocode_areas.T122 NN)), (26, cut Tryd.prog Gocode_areas.fr26 Gocode_areas.ou26 (Gocode_areas.T26 NN))]
theorem Gocode_areas.c26 (A : Ks) (w0 : World) : CutOk Tryd.prog ⟨Tryd.f44.ntmps, 0, A⟩ w0 (kRet Tryd.prog Tryd.f44.results.toList Gocode_areas.rk) (bodyOf Tryd.f44) 26 (cut Tryd.prog Gocode_areas.fr26 Gocode_areas.ou26 (Gocode_areas.T26 NN)) :=
  loop_ok Gocode_areas.hρ (Λ := Gocode_areas.Λ0) (cuts_nil) (by kernel_rfl) (D := 64) (b := loopOf Tryd.f44 26) (by kernel_rfl) (by kernel_rfl) NN (fun x κ => by kernel_rfl) (fun k x κ => by kernel_rfl)
theorem Gocode_areas.c122 (A : Ks) (w0 : World) : CutOk Tryd.prog ⟨Tryd.f44.ntmps, 0, A⟩ w0 (kRet Tryd.prog Tryd.f44.results.toList Gocode_areas.rk) (bodyOf Tryd.f44) 122 (cut Tryd.prog Gocode_areas.fr122 Gocode_areas.ou122 (Gocode_areas.T122 NN)) :=
  loop_ok Gocode_areas.hρ (Λ := Gocode_areas.Λ1) (cuts_cons (Gocode_areas.c26 A w0) (cuts_nil)) (by kernel_rfl) (D := 64) (b := loopOf Tryd.f44 122) (by kernel_rfl) (by kernel_rfl) NN (fun x κ => by kernel_rfl) (fun k x κ => by kernel_rfl)
theorem Gocode_areas.spec : Spec Tryd.prog 44 Gocode_areas.pk Gocode_areas.rk Gocode_areas.g :=
  spec_of_body (fn := Tryd.f44) (c := bodyOf Tryd.f44) (by kernel_rfl) (by kernel_rfl) (by kernel_rfl) (by kernel_rfl) (ρ := Gocode_areas.ρ) Gocode_areas.hρ (Λ := Gocode_areas.Λ) (fun A w0 => cuts_cons (Gocode_areas.c122 A w0) (cuts_cons (Gocode_areas.c26 A w0) (cuts_nil))) (fun x => by kernel_rfl)

/-! ### 45 bluebell/ocode.Named -/
def Gocode_Named.p53 (v1 : D) (v4 : Int) (v5 : Bool) (κ0 : Unit → Option Int) : Option Int :=
  bif v5 then some ((v1.cell 1).int) else bif (v4 == 30) then some ((v1.cell 2).int) else κ0 ()
def Gocode_Named.f (a0 : D) : Option Int :=
  bif (((a0.cell 0).int) == 20) then Gocode_Named.p53 a0 ((a0.cell 0).int) (((a0.cell 0).int) == 20) (fun y1 => some 0) else bif (((a0.cell 0).int) == 21) then Gocode_Named.p53 a0 ((a0.cell 0).int) (((a0.cell 0).int) == 21) (fun y2 => some 0) else bif (((a0.cell 0).int) == 22) then Gocode_Named.p53 a0 ((a0.cell 0).int) (((a0.cell 0).int) == 22) (fun y3 => some 0) else bif (((a0.cell 0).int) == 27) then Gocode_Named.p53 a0 ((a0.cell 0).int) (((a0.cell 0).int) == 27) (fun y4 => some 0) else Gocode_Named.p53 a0 ((a0.cell 0).int) (((a0.cell 0).int) == 29) (fun y5 => some 0)
def Gocode_Named.pk : List FK := [.st 34]
def Gocode_Named.rk : List FK := [.int .i64]
def Gocode_Named.g : Tp Gocode_Named.pk → Option (Tp Gocode_Named.rk) := fun x => Gocode_Named.f x
def Gocode_Named.ρ : List (Entry (Tp Gocode_Named.rk)) := []
theorem Gocode_Named.hρ : ∀ e ∈ Gocode_Named.ρ, EntryOk Tryd.prog e :=
  ents_nil
def Gocode_Named.fr53 : Fr := [(1, .bx (.st 34)), (4, .int .i64), (5, .bool)]
def Gocode_Named.ou53 : Outs := [(0, [])]
def Gocode_Named.T53 (x : Gocode_Named.fr53.T) (κ : Kp (Tp Gocode_Named.rk) Gocode_Named.ou53) : Option (Tp Gocode_Named.rk) := Gocode_Named.p53 x.1 x.2.1 x.2.2 κ.1
def Gocode_Named.Λ0 : Cuts (Tp Gocode_Named.rk) := cutsOf []
def Gocode_Named.Λ : Cuts (Tp Gocode_Named.rk) := cutsOf [(53, cut Tryd.prog Gocode_Named.fr53 Gocode_Named.ou53 (Gocode_Named.T53))]
theorem Gocode_Named.c53 (A : Ks) (w0 : World) : CutOk Tryd.prog ⟨Tryd.f45.ntmps, 0, A⟩ w0 (kRet Tryd.prog Tryd.f45.results.toList Gocode_Named.rk) (bodyOf Tryd.f45) 53 (cut Tryd.prog Gocode_Named.fr53 Gocode_Named.ou53 (Gocode_Named.T53)) :=
  cut_ok Gocode_Named.hρ (Λ := Gocode_Named.Λ0) (cuts_nil) (by kernel_rfl) (by kernel_rfl) (D := 64) (c := nodeOf Tryd.f45 53) (by kernel_rfl) (by kernel_rfl) (fun x κ => by kernel_rfl)
theorem Gocode_Named.spec : Spec Tryd.prog 45 Gocode_Named.pk Gocode_Named.rk Gocode_Named.g :=
  spec_of_body (fn := Tryd.f45) (c := bodyOf Tryd.f45) (by kernel_rfl) (by kernel_rfl) (by kernel_rfl) (by kernel_rfl) (ρ := Gocode_Named.ρ) Gocode_Named.hρ (Λ := Gocode_Named.Λ) (fun A w0 => cuts_cons (Gocode_Named.c53 A w0) (cuts_nil)) (fun x => by kernel_rfl)

/-! ### 26 bluebell/ocode.coded -/
def Gocode_coded.l122 : Nat → D → (List D) → (List D) → Int → Int → (D → Option Bool) → Option Bool
  | 0, _, _, _, _, _, _ => none
  | k + 1, v1, v5, v35, v36, v37, κ1 =>
    bif decide (v37 < v36) then gd (inB v37 v35.length) (gd ((!(!((decide ((((rd v35 v37.toNat).cell 0).int) < 1)) || (decide ((((rd v35 v37.toNat).cell 0).int) ≥ 31))))) || (inB (((rd v35 v37.toNat).cell 0).int) 31 && inB (((rd v35 v37.toNat).cell 0).int) v5.length)) (gd ((!(!((decide ((((rd v35 v37.toNat).cell 0).int) < 1)) || (decide ((((rd v35 v37.toNat).cell 0).int) ≥ 31))))) || (Nat.blt (((rd v35 v37.toNat).cell 0).int).toNat v5.length)) ((bif (!((decide ((((rd v35 v37.toNat).cell 0).int) < 1)) || (decide ((((rd v35 v37.toNat).cell 0).int) ≥ 31)))) then Gocode_numbers.f (rd v35 v37.toNat) v1 (rd v5 (((rd v35 v37.toNat).cell 0).int).toNat) else some false).bind fun r3 => bif (((decide ((((rd v35 v37.toNat).cell 0).int) < 1)) || (decide ((((rd v35 v37.toNat).cell 0).int) ≥ 31))) || (!r3)) then some false else Gocode_coded.l122 k v1 v5 v35 v36 (IntKind.i64.wrap (v37 + 1)) κ1))) else κ1 v1
def Gocode_coded.p261427 (v8 : List D) (v9 : List D) (v11 : Int) (v13 : D) (v80 : List D) (v81 : Int) (v82 : Int) (κ0 : (List D × List D × Int × List D × Int × Int) → Option Bool) : Option Bool :=
  (Gocode_Named.f v13).bind fun r8 => gd ((!(decide (r8 > 0))) || (inB r8 v9.length)) (gd ((!(decide (r8 > 0))) || (Nat.blt r8.toNat v9.length)) (gd ((!((decide (r8 > 0)) && (!(((rd v9 r8.toNat).int) != v11)))) || (inB r8 v8.length)) (gd ((!((decide (r8 > 0)) && (!(((rd v9 r8.toNat).int) != v11)))) || (Nat.blt r8.toNat v8.length)) (bif ((decide (r8 > 0)) && ((((rd v9 r8.toNat).int) != v11) || (((rd v8 r8.toNat).int) == 0))) then some false else κ0 (v8, v9, v11, v80, v81, v82)))))
def Gocode_coded.l2042 : Nat → (List D) → (List D) → Int → (List D) → Int → Int → (Unit → Option Bool) → Option Bool
  | 0, _, _, _, _, _, _, _ => none
  | k + 1, v8, v9, v11, v80, v81, v82, κ3 =>
    bif decide (v82 < v81) then gd (inB v82 v80.length) (bif ((((rd v80 v82.toNat).cell 0).int) == 24) then Gocode_coded.p261427 v8 v9 (((rd v80 v82.toNat).cell 1).int) (rd v80 v82.toNat) v80 v81 v82 (fun y9 => Gocode_coded.l2042 k y9.1 y9.2.1 y9.2.2.1 y9.2.2.2.1 y9.2.2.2.2.1 (IntKind.i64.wrap (y9.2.2.2.2.2 + 1)) κ3) else Gocode_coded.p261427 v8 v9 v11 (rd v80 v82.toNat) v80 v81 v82 (fun y10 => Gocode_coded.l2042 k y10.1 y10.2.1 y10.2.2.1 y10.2.2.2.1 y10.2.2.2.2.1 (IntKind.i64.wrap (y10.2.2.2.2.2 + 1)) κ3)) else κ3 ()
def Gocode_coded.f (a0 : D) : Option Bool :=
  (Glex_Quote.f ((a0.cell 0).str)).bind fun r1 => bif (((r1.2 != 0) || (decide (((a0.cell 4).int) < 0))) || (decide (((a0.cell 5).int) < 0))) then some false else (Gocode_kinds.f).bind fun r2 => gd (Nat.beq (r2 : List D).length ((List.replicate 31 (.r [.s ByteArray.empty, .i 0, .i 0, .i 0] : D)) : List D).length && Nat.beq (r2 : List D).length 31) (Gocode_coded.l122 NN a0 r2 ((a0.cell 2).list) (((a0.cell 2).list).length : Int) 0 (fun y4 => (Gocode_places.f y4).bind fun r5 => (bif (!(!r5.2.2)) then Gocode_order.f ((y4.cell 2).list) else some false).bind fun r6 => (bif (!((!r5.2.2) || (!r6))) then Gocode_areas.f y4 else some false).bind fun r7 => bif (((!r5.2.2) || (!r6)) || (!r7)) then some false else Gocode_coded.l2042 NN r5.1 r5.2.1 0 ((y4.cell 2).list) (((y4.cell 2).list).length : Int) 0 (fun y11 => some true)))
def Gocode_coded.pk : List FK := [.st 26]
def Gocode_coded.rk : List FK := [.bool]
def Gocode_coded.g : Tp Gocode_coded.pk → Option (Tp Gocode_coded.rk) := fun x => Gocode_coded.f x
def Gocode_coded.ρ : List (Entry (Tp Gocode_coded.rk)) := [entry _ Tryd.prog 15 Glex_Quote.pk Glex_Quote.rk Glex_Quote.g, entry _ Tryd.prog 17 Gocode_kinds.pk Gocode_kinds.rk Gocode_kinds.g, entry _ Tryd.prog 41 Gocode_numbers.pk Gocode_numbers.rk Gocode_numbers.g, entry _ Tryd.prog 42 Gocode_places.pk Gocode_places.rk Gocode_places.g, entry _ Tryd.prog 43 Gocode_order.pk Gocode_order.rk Gocode_order.g, entry _ Tryd.prog 44 Gocode_areas.pk Gocode_areas.rk Gocode_areas.g, entry _ Tryd.prog 45 Gocode_Named.pk Gocode_Named.rk Gocode_Named.g]
theorem Gocode_coded.hρ : ∀ e ∈ Gocode_coded.ρ, EntryOk Tryd.prog e :=
  ents_cons (ent (fn := Tryd.f15) Glex_Quote.spec (by kernel_rfl) (by kernel_rfl) (by kernel_rfl) (by kernel_rfl)) (ents_cons (ent (fn := Tryd.f17) Gocode_kinds.spec (by kernel_rfl) (by kernel_rfl) (by kernel_rfl) (by kernel_rfl)) (ents_cons (ent (fn := Tryd.f41) Gocode_numbers.spec (by kernel_rfl) (by kernel_rfl) (by kernel_rfl) (by kernel_rfl)) (ents_cons (ent (fn := Tryd.f42) Gocode_places.spec (by kernel_rfl) (by kernel_rfl) (by kernel_rfl) (by kernel_rfl)) (ents_cons (ent (fn := Tryd.f43) Gocode_order.spec (by kernel_rfl) (by kernel_rfl) (by kernel_rfl) (by kernel_rfl)) (ents_cons (ent (fn := Tryd.f44) Gocode_areas.spec (by kernel_rfl) (by kernel_rfl) (by kernel_rfl) (by kernel_rfl)) (ents_cons (ent (fn := Tryd.f45) Gocode_Named.spec (by kernel_rfl) (by kernel_rfl) (by kernel_rfl) (by kernel_rfl)) (ents_nil)))))))
def Gocode_coded.fr122 : Fr := [(1, .bx (.st 26)), (5, .arr 57), (35, .sl 34), (36, .int .i64), (37, .int .i64)]
def Gocode_coded.ou122 : Outs := [(1, [(1, .bx (.st 26))])]
def Gocode_coded.T122 (k : Nat) (x : Gocode_coded.fr122.T) (κ : Kp (Tp Gocode_coded.rk) Gocode_coded.ou122) : Option (Tp Gocode_coded.rk) := Gocode_coded.l122 k x.1 x.2.1 x.2.2.1 x.2.2.2.1 x.2.2.2.2 κ.1
def Gocode_coded.fr261427 : Fr := [(8, .own 3), (9, .own 3), (11, .int .i64), (13, .bx (.st 34)), (80, .sl 34), (81, .int .i64), (82, .int .i64)]
def Gocode_coded.ou261427 : Outs := [(0, [(8, .own 3), (9, .own 3), (11, .int .i64), (80, .sl 34), (81, .int .i64), (82, .int .i64)])]
def Gocode_coded.T261427 (x : Gocode_coded.fr261427.T) (κ : Kp (Tp Gocode_coded.rk) Gocode_coded.ou261427) : Option (Tp Gocode_coded.rk) := Gocode_coded.p261427 x.1 x.2.1 x.2.2.1 x.2.2.2.1 x.2.2.2.2.1 x.2.2.2.2.2.1 x.2.2.2.2.2.2 κ.1
def Gocode_coded.fr2042 : Fr := [(8, .own 3), (9, .own 3), (11, .int .i64), (80, .sl 34), (81, .int .i64), (82, .int .i64)]
def Gocode_coded.ou2042 : Outs := [(3, [])]
def Gocode_coded.T2042 (k : Nat) (x : Gocode_coded.fr2042.T) (κ : Kp (Tp Gocode_coded.rk) Gocode_coded.ou2042) : Option (Tp Gocode_coded.rk) := Gocode_coded.l2042 k x.1 x.2.1 x.2.2.1 x.2.2.2.1 x.2.2.2.2.1 x.2.2.2.2.2 κ.1
def Gocode_coded.Λ0 : Cuts (Tp Gocode_coded.rk) := cutsOf []
def Gocode_coded.Λ1 : Cuts (Tp Gocode_coded.rk) := cutsOf [(122, cut Tryd.prog Gocode_coded.fr122 Gocode_coded.ou122 (Gocode_coded.T122 NN))]
def Gocode_coded.Λ2 : Cuts (Tp Gocode_coded.rk) := cutsOf [(261427, cut Tryd.prog Gocode_coded.fr261427 Gocode_coded.ou261427 (Gocode_coded.T261427)), (122, cut Tryd.prog Gocode_coded.fr122 Gocode_coded.ou122 (Gocode_coded.T122 NN))]
def Gocode_coded.Λ : Cuts (Tp Gocode_coded.rk) := cutsOf [(2042, cut Tryd.prog Gocode_coded.fr2042 Gocode_coded.ou2042 (Gocode_coded.T2042 NN)), (261427, cut Tryd.prog Gocode_coded.fr261427 Gocode_coded.ou261427 (Gocode_coded.T261427)), (122, cut Tryd.prog Gocode_coded.fr122 Gocode_coded.ou122 (Gocode_coded.T122 NN))]
theorem Gocode_coded.c122 (A : Ks) (w0 : World) : CutOk Tryd.prog ⟨Tryd.f26.ntmps, 0, A⟩ w0 (kRet Tryd.prog Tryd.f26.results.toList Gocode_coded.rk) (bodyOf Tryd.f26) 122 (cut Tryd.prog Gocode_coded.fr122 Gocode_coded.ou122 (Gocode_coded.T122 NN)) :=
  loop_ok Gocode_coded.hρ (Λ := Gocode_coded.Λ0) (cuts_nil) (by kernel_rfl) (D := 64) (b := loopOf Tryd.f26 122) (by kernel_rfl) (by kernel_rfl) NN (fun x κ => by kernel_rfl) (fun k x κ => by kernel_rfl)
theorem Gocode_coded.c261427 (A : Ks) (w0 : World) : CutOk Tryd.prog ⟨Tryd.f26.ntmps, 0, A⟩ w0 (kRet Tryd.prog Tryd.f26.results.toList Gocode_coded.rk) (bodyOf Tryd.f26) 261427 (cut Tryd.prog Gocode_coded.fr261427 Gocode_coded.ou261427 (Gocode_coded.T261427)) :=
  cut_ok Gocode_coded.hρ (Λ := Gocode_coded.Λ1) (cuts_cons (Gocode_coded.c122 A w0) (cuts_nil)) (by kernel_rfl) (by kernel_rfl) (D := 64) (c := nodeOf Tryd.f26 261427) (by kernel_rfl) (by kernel_rfl) (fun x κ => by kernel_rfl)
theorem Gocode_coded.c2042 (A : Ks) (w0 : World) : CutOk Tryd.prog ⟨Tryd.f26.ntmps, 0, A⟩ w0 (kRet Tryd.prog Tryd.f26.results.toList Gocode_coded.rk) (bodyOf Tryd.f26) 2042 (cut Tryd.prog Gocode_coded.fr2042 Gocode_coded.ou2042 (Gocode_coded.T2042 NN)) :=
  loop_ok Gocode_coded.hρ (Λ := Gocode_coded.Λ2) (cuts_cons (Gocode_coded.c261427 A w0) (cuts_cons (Gocode_coded.c122 A w0) (cuts_nil))) (by kernel_rfl) (D := 64) (b := loopOf Tryd.f26 2042) (by kernel_rfl) (by kernel_rfl) NN (fun x κ => by kernel_rfl) (fun k x κ => by kernel_rfl)
theorem Gocode_coded.spec : Spec Tryd.prog 26 Gocode_coded.pk Gocode_coded.rk Gocode_coded.g :=
  spec_of_body (fn := Tryd.f26) (c := bodyOf Tryd.f26) (by kernel_rfl) (by kernel_rfl) (by kernel_rfl) (by kernel_rfl) (ρ := Gocode_coded.ρ) Gocode_coded.hρ (Λ := Gocode_coded.Λ) (fun A w0 => cuts_cons (Gocode_coded.c2042 A w0) (cuts_cons (Gocode_coded.c261427 A w0) (cuts_cons (Gocode_coded.c122 A w0) (cuts_nil)))) (fun x => by kernel_rfl)

/-! ### 46 bluebell/ocode.fits -/
def Gocode_fits.p53 (v1 : Int) (v3 : Bool) (v4 : D) (v6 : D) (v10 : Int) (v11 : Bool) (κ0 : (Int × D × D) → Option Bool) : Option Bool :=
  bif v11 then (Gocode_in.f ((v4.cell 1).int) 2 (IntKind.i64.wrap (v1 - 1))).bind fun r1 => bif (!r1) then some false else κ0 (v1, v4, v6) else bif (v10 == 4) then bif decide (((v4.cell 1).int) < 2) then some false else κ0 (v1, v4, v6) else bif (v10 == 23) then (Gocode_in.f ((v4.cell 1).int) 2 (IntKind.i64.wrap (v1 - 3))).bind fun r2 => bif (!r2) then some false else κ0 (v1, v4, v6) else bif (v10 == 18) then bif ((!v3) && (decide (((v4.cell 1).int) > (IntKind.i64.wrap ((IntKind.i64.wrap (v1 + 2000)) + 2))))) then some false else κ0 (v1, v4, v6) else κ0 (v1, v4, v6)
def Gocode_fits.p7 (v1 : Int) (v4 : D) (v6 : D) : Option Bool :=
  some ((((v4.cell 0).int) == 24) || (decide ((IntKind.i64.wrap (v1 - ((v6.cell 2).int))) ≥ 2)))
def Gocode_fits.f (a0 : D) (a1 : Int) (a2 : D) (a3 : Bool) : Option Bool :=
  bif (((a0.cell 0).int) == 2) then Gocode_fits.p53 a1 a3 a0 a2 ((a0.cell 0).int) (((a0.cell 0).int) == 2) (fun y3 => Gocode_fits.p7 y3.1 y3.2.1 y3.2.2) else Gocode_fits.p53 a1 a3 a0 a2 ((a0.cell 0).int) (((a0.cell 0).int) == 3) (fun y4 => Gocode_fits.p7 y4.1 y4.2.1 y4.2.2)
def Gocode_fits.pk : List FK := [.st 34, .int .i64, .st 57, .bool]
def Gocode_fits.rk : List FK := [.bool]
def Gocode_fits.g : Tp Gocode_fits.pk → Option (Tp Gocode_fits.rk) := fun x => Gocode_fits.f x.1 x.2.1 x.2.2.1 x.2.2.2
def Gocode_fits.ρ : List (Entry (Tp Gocode_fits.rk)) := [entry _ Tryd.prog 61 Gocode_in.pk Gocode_in.rk Gocode_in.g]
theorem Gocode_fits.hρ : ∀ e ∈ Gocode_fits.ρ, EntryOk Tryd.prog e :=
  ents_cons (ent (fn := Tryd.f61) Gocode_in.spec (by kernel_rfl) (by kernel_rfl) (by kernel_rfl) (by kernel_rfl)) (ents_nil)
def Gocode_fits.fr53 : Fr := [(1, .int .i64), (3, .bool), (4, .bx (.st 34)), (6, .bx (.st 57)), (10, .int .i64), (11, .bool)]
def Gocode_fits.ou53 : Outs := [(0, [(1, .int .i64), (4, .bx (.st 34)), (6, .bx (.st 57))])]
def Gocode_fits.T53 (x : Gocode_fits.fr53.T) (κ : Kp (Tp Gocode_fits.rk) Gocode_fits.ou53) : Option (Tp Gocode_fits.rk) := Gocode_fits.p53 x.1 x.2.1 x.2.2.1 x.2.2.2.1 x.2.2.2.2.1 x.2.2.2.2.2 κ.1
def Gocode_fits.fr7 : Fr := [(1, .int .i64), (4, .bx (.st 34)), (6, .bx (.st 57))]
def Gocode_fits.ou7 : Outs := []
def Gocode_fits.T7 (x : Gocode_fits.fr7.T) (κ : Kp (Tp Gocode_fits.rk) Gocode_fits.ou7) : Option (Tp Gocode_fits.rk) := Gocode_fits.p7 x.1 x.2.1 x.2.2
def Gocode_fits.Λ0 : Cuts (Tp Gocode_fits.rk) := cutsOf []
def Gocode_fits.Λ1 : Cuts (Tp Gocode_fits.rk) := cutsOf [(53, cut Tryd.prog Gocode_fits.fr53 Gocode_fits.ou53 (Gocode_fits.T53))]
def Gocode_fits.Λ : Cuts (Tp Gocode_fits.rk) := cutsOf [(7, cut Tryd.prog Gocode_fits.fr7 Gocode_fits.ou7 (Gocode_fits.T7)), (53, cut Tryd.prog Gocode_fits.fr53 Gocode_fits.ou53 (Gocode_fits.T53))]
theorem Gocode_fits.c53 (A : Ks) (w0 : World) : CutOk Tryd.prog ⟨Tryd.f46.ntmps, 0, A⟩ w0 (kRet Tryd.prog Tryd.f46.results.toList Gocode_fits.rk) (bodyOf Tryd.f46) 53 (cut Tryd.prog Gocode_fits.fr53 Gocode_fits.ou53 (Gocode_fits.T53)) :=
  cut_ok Gocode_fits.hρ (Λ := Gocode_fits.Λ0) (cuts_nil) (by kernel_rfl) (by kernel_rfl) (D := 64) (c := nodeOf Tryd.f46 53) (by kernel_rfl) (by kernel_rfl) (fun x κ => by kernel_rfl)
theorem Gocode_fits.c7 (A : Ks) (w0 : World) : CutOk Tryd.prog ⟨Tryd.f46.ntmps, 0, A⟩ w0 (kRet Tryd.prog Tryd.f46.results.toList Gocode_fits.rk) (bodyOf Tryd.f46) 7 (cut Tryd.prog Gocode_fits.fr7 Gocode_fits.ou7 (Gocode_fits.T7)) :=
  cut_ok Gocode_fits.hρ (Λ := Gocode_fits.Λ1) (cuts_cons (Gocode_fits.c53 A w0) (cuts_nil)) (by kernel_rfl) (by kernel_rfl) (D := 64) (c := nodeOf Tryd.f46 7) (by kernel_rfl) (by kernel_rfl) (fun x κ => by kernel_rfl)
theorem Gocode_fits.spec : Spec Tryd.prog 46 Gocode_fits.pk Gocode_fits.rk Gocode_fits.g :=
  spec_of_body (fn := Tryd.f46) (c := bodyOf Tryd.f46) (by kernel_rfl) (by kernel_rfl) (by kernel_rfl) (by kernel_rfl) (ρ := Gocode_fits.ρ) Gocode_fits.hρ (Λ := Gocode_fits.Λ) (fun A w0 => cuts_cons (Gocode_fits.c7 A w0) (cuts_cons (Gocode_fits.c53 A w0) (cuts_nil))) (fun x => by kernel_rfl)

/-! ### 24 bluebell/ocode.after -/
def Gocode_after.p53 (v3 : D) : Option Int :=
  some (IntKind.i64.wrap (((v3.cell 1).int) + 1))
def Gocode_after.p7 (v1 : Int) (v5 : D) : Option Int :=
  some (IntKind.i64.wrap ((IntKind.i64.wrap (v1 - ((v5.cell 2).int))) + ((v5.cell 3).int)))
def Gocode_after.f (a0 : D) (a1 : Int) (a2 : D) : Option Int :=
  bif (((a0.cell 0).int) == 18) then some ((a0.cell 1).int) else bif (((a0.cell 0).int) == 24) then some (IntKind.i64.wrap (2 + ((a0.cell 2).int))) else bif (((a0.cell 0).int) == 23) then Gocode_after.p53 a0 else bif (((a0.cell 0).int) == 28) then Gocode_after.p53 a0 else Gocode_after.p7 a1 a2
def Gocode_after.pk : List FK := [.st 34, .int .i64, .st 57]
def Gocode_after.rk : List FK := [.int .i64]
def Gocode_after.g : Tp Gocode_after.pk → Option (Tp Gocode_after.rk) := fun x => Gocode_after.f x.1 x.2.1 x.2.2
def Gocode_after.ρ : List (Entry (Tp Gocode_after.rk)) := []
theorem Gocode_after.hρ : ∀ e ∈ Gocode_after.ρ, EntryOk Tryd.prog e :=
  ents_nil
def Gocode_after.fr53 : Fr := [(3, .bx (.st 34))]
def Gocode_after.ou53 : Outs := []
def Gocode_after.T53 (x : Gocode_after.fr53.T) (κ : Kp (Tp Gocode_after.rk) Gocode_after.ou53) : Option (Tp Gocode_after.rk) := Gocode_after.p53 x
def Gocode_after.fr7 : Fr := [(1, .int .i64), (5, .bx (.st 57))]
def Gocode_after.ou7 : Outs := []
def Gocode_after.T7 (x : Gocode_after.fr7.T) (κ : Kp (Tp Gocode_after.rk) Gocode_after.ou7) : Option (Tp Gocode_after.rk) := Gocode_after.p7 x.1 x.2
def Gocode_after.Λ0 : Cuts (Tp Gocode_after.rk) := cutsOf []
def Gocode_after.Λ1 : Cuts (Tp Gocode_after.rk) := cutsOf [(53, cut Tryd.prog Gocode_after.fr53 Gocode_after.ou53 (Gocode_after.T53))]
def Gocode_after.Λ : Cuts (Tp Gocode_after.rk) := cutsOf [(7, cut Tryd.prog Gocode_after.fr7 Gocode_after.ou7 (Gocode_after.T7)), (53, cut Tryd.prog Gocode_after.fr53 Gocode_after.ou53 (Gocode_after.T53))]
theorem Gocode_after.c53 (A : Ks) (w0 : World) : CutOk Tryd.prog ⟨Tryd.f24.ntmps, 0, A⟩ w0 (kRet Tryd.prog Tryd.f24.results.toList Gocode_after.rk) (bodyOf Tryd.f24) 53 (cut Tryd.prog Gocode_after.fr53 Gocode_after.ou53 (Gocode_after.T53)) :=
  cut_ok Gocode_after.hρ (Λ := Gocode_after.Λ0) (cuts_nil) (by kernel_rfl) (by kernel_rfl) (D := 64) (c := nodeOf Tryd.f24 53) (by kernel_rfl) (by kernel_rfl) (fun x κ => by kernel_rfl)
theorem Gocode_after.c7 (A : Ks) (w0 : World) : CutOk Tryd.prog ⟨Tryd.f24.ntmps, 0, A⟩ w0 (kRet Tryd.prog Tryd.f24.results.toList Gocode_after.rk) (bodyOf Tryd.f24) 7 (cut Tryd.prog Gocode_after.fr7 Gocode_after.ou7 (Gocode_after.T7)) :=
  cut_ok Gocode_after.hρ (Λ := Gocode_after.Λ1) (cuts_cons (Gocode_after.c53 A w0) (cuts_nil)) (by kernel_rfl) (by kernel_rfl) (D := 64) (c := nodeOf Tryd.f24 7) (by kernel_rfl) (by kernel_rfl) (fun x κ => by kernel_rfl)
theorem Gocode_after.spec : Spec Tryd.prog 24 Gocode_after.pk Gocode_after.rk Gocode_after.g :=
  spec_of_body (fn := Tryd.f24) (c := bodyOf Tryd.f24) (by kernel_rfl) (by kernel_rfl) (by kernel_rfl) (by kernel_rfl) (ρ := Gocode_after.ρ) Gocode_after.hρ (Λ := Gocode_after.Λ) (fun A w0 => cuts_cons (Gocode_after.c7 A w0) (cuts_cons (Gocode_after.c53 A w0) (cuts_nil))) (fun x => by kernel_rfl)

/-! ### 47 bluebell/ocode.leads -/
def Gocode_leads.l12 : Nat → (List D) → Int → (Int → Option Int) → Option Int
  | 0, _, _, _ => none
  | k + 1, v0, v1, κ1 =>
    gd (inB v1 v0.length) (bif ((((rd v0 v1.toNat).cell 0).int) == 19) then Gocode_leads.l12 k v0 (IntKind.i64.wrap (v1 + 1)) κ1 else κ1 v1)
def Gocode_leads.f (a0 : List D) (a1 : Int) : Option Int :=
  Gocode_leads.l12 NN a0 a1 (fun y1 => some y1)
def Gocode_leads.pk : List FK := [.sl 34, .int .i64]
def Gocode_leads.rk : List FK := [.int .i64]
def Gocode_leads.g : Tp Gocode_leads.pk → Option (Tp Gocode_leads.rk) := fun x => Gocode_leads.f x.1 x.2
def Gocode_leads.ρ : List (Entry (Tp Gocode_leads.rk)) := []
theorem Gocode_leads.hρ : ∀ e ∈ Gocode_leads.ρ, EntryOk Tryd.prog e :=
  ents_nil
def Gocode_leads.fr12 : Fr := [(0, .sl 34), (1, .int .i64)]
def Gocode_leads.ou12 : Outs := [(1, [(1, .int .i64)])]
def Gocode_leads.T12 (k : Nat) (x : Gocode_leads.fr12.T) (κ : Kp (Tp Gocode_leads.rk) Gocode_leads.ou12) : Option (Tp Gocode_leads.rk) := Gocode_leads.l12 k x.1 x.2 κ.1
def Gocode_leads.Λ0 : Cuts (Tp Gocode_leads.rk) := cutsOf []
def Gocode_leads.Λ : Cuts (Tp Gocode_leads.rk) := cutsOf [(12, cut Tryd.prog Gocode_leads.fr12 Gocode_leads.ou12 (Gocode_leads.T12 NN))]
theorem Gocode_leads.c12 (A : Ks) (w0 : World) : CutOk Tryd.prog ⟨Tryd.f47.ntmps, 0, A⟩ w0 (kRet Tryd.prog Tryd.f47.results.toList Gocode_leads.rk) (bodyOf Tryd.f47) 12 (cut Tryd.prog Gocode_leads.fr12 Gocode_leads.ou12 (Gocode_leads.T12 NN)) :=
  loop_ok Gocode_leads.hρ (Λ := Gocode_leads.Λ0) (cuts_nil) (by kernel_rfl) (D := 64) (b := loopOf Tryd.f47 12) (by kernel_rfl) (by kernel_rfl) NN (fun x κ => by kernel_rfl) (fun k x κ => by kernel_rfl)
theorem Gocode_leads.spec : Spec Tryd.prog 47 Gocode_leads.pk Gocode_leads.rk Gocode_leads.g :=
  spec_of_body (fn := Tryd.f47) (c := bodyOf Tryd.f47) (by kernel_rfl) (by kernel_rfl) (by kernel_rfl) (by kernel_rfl) (ρ := Gocode_leads.ρ) Gocode_leads.hρ (Λ := Gocode_leads.Λ) (fun A w0 => cuts_cons (Gocode_leads.c12 A w0) (cuts_nil)) (fun x => by kernel_rfl)

/-! ### 27 bluebell/ocode.stacked -/
def Gocode_stacked.l250 : Nat → D → (List D) → (List D) → Int → (List D) → Int → Int → (Unit → Option Bool) → Option Bool
  | 0, _, _, _, _, _, _, _, _ => none
  | k + 1, v1, v3, v4, v7, v19, v20, v21, κ1 =>
    bif decide (v21 < v20) then gd (inB v21 v19.length) (gd (inB (((rd v19 v21.toNat).cell 0).int) 31 && inB (((rd v19 v21.toNat).cell 0).int) v3.length) (gd (Nat.blt (((rd v19 v21.toNat).cell 0).int).toNat v3.length) (gd ((!(decide (v21 > 0))) || (inB (IntKind.i64.wrap (v21 - 1)) ((v1.cell 2).list).length)) ((Gocode_fits.f (rd v19 v21.toNat) v7 (rd v3 (((rd v19 v21.toNat).cell 0).int).toNat) ((decide (v21 > 0)) && ((((rd ((v1.cell 2).list) (IntKind.i64.wrap (v21 - 1)).toNat).cell 0).int) == 19))).bind fun r3 => bif (!r3) then some false else gd (inB (((rd v19 v21.toNat).cell 0).int) 31 && inB (((rd v19 v21.toNat).cell 0).int) v3.length) (gd (Nat.blt (((rd v19 v21.toNat).cell 0).int).toNat v3.length) ((Gocode_after.f (rd v19 v21.toNat) v7 (rd v3 (((rd v19 v21.toNat).cell 0).int).toNat)).bind fun r4 => bif ((decide (r4 < 2)) || (decide (r4 > 4000))) then some false else (Gocode_Named.f (rd v19 v21.toNat)).bind fun r5 => gd ((!(decide (r5 > 0))) || (inB r5 v4.length)) (gd ((!(decide (r5 > 0))) || (Nat.blt r5.toNat v4.length)) ((bif (decide (r5 > 0)) then Gocode_leads.f ((v1.cell 2).list) ((rd v4 r5.toNat).int) else some 0).bind fun r6 => gd ((!(decide (r5 > 0))) || (inB r6 ((v1.cell 2).list).length)) (bif ((decide (r5 > 0)) && (!(((((rd ((v1.cell 2).list) r6.toNat).cell 0).int) == 28) == ((((rd v19 v21.toNat).cell 0).int) == 27)))) then some false else (bif ((((rd v19 v21.toNat).cell 0).int) != 19) then Gocode_Ends.f ((v1.cell 2).list) v21 else some false).bind fun r7 => (bif ((((((rd v19 v21.toNat).cell 0).int) != 19) && (!r7)) && (decide ((IntKind.i64.wrap (v21 + 1)) < (((v1.cell 2).list).length : Int)))) then Gocode_leads.f ((v1.cell 2).list) (IntKind.i64.wrap (v21 + 1)) else some 0).bind fun r8 => gd ((!((((((rd v19 v21.toNat).cell 0).int) != 19) && (!r7)) && (decide ((IntKind.i64.wrap (v21 + 1)) < (((v1.cell 2).list).length : Int))))) || (inB r8 ((v1.cell 2).list).length)) (bif (((((((rd v19 v21.toNat).cell 0).int) != 19) && (!r7)) && (decide ((IntKind.i64.wrap (v21 + 1)) < (((v1.cell 2).list).length : Int)))) && ((((rd ((v1.cell 2).list) r8.toNat).cell 0).int) == 28)) then some false else Gocode_stacked.l250 k v1 v3 v4 r4 v19 v20 (IntKind.i64.wrap (v21 + 1)) κ1)))))))))) else κ1 ()
def Gocode_stacked.f (a0 : D) : Option Bool :=
  (Gocode_kinds.f).bind fun r1 => gd (Nat.beq (r1 : List D).length ((List.replicate 31 (.r [.s ByteArray.empty, .i 0, .i 0, .i 0] : D)) : List D).length && Nat.beq (r1 : List D).length 31) ((Gocode_places.f a0).bind fun r2 => Gocode_stacked.l250 NN a0 r1 r2.1 0 ((a0.cell 2).list) (((a0.cell 2).list).length : Int) 0 (fun y9 => some true))
def Gocode_stacked.pk : List FK := [.st 26]
def Gocode_stacked.rk : List FK := [.bool]
def Gocode_stacked.g : Tp Gocode_stacked.pk → Option (Tp Gocode_stacked.rk) := fun x => Gocode_stacked.f x
def Gocode_stacked.ρ : List (Entry (Tp Gocode_stacked.rk)) := [entry _ Tryd.prog 17 Gocode_kinds.pk Gocode_kinds.rk Gocode_kinds.g, entry _ Tryd.prog 42 Gocode_places.pk Gocode_places.rk Gocode_places.g, entry _ Tryd.prog 46 Gocode_fits.pk Gocode_fits.rk Gocode_fits.g, entry _ Tryd.prog 24 Gocode_after.pk Gocode_after.rk Gocode_after.g, entry _ Tryd.prog 45 Gocode_Named.pk Gocode_Named.rk Gocode_Named.g, entry _ Tryd.prog 47 Gocode_leads.pk Gocode_leads.rk Gocode_leads.g, entry _ Tryd.prog 48 Gocode_Ends.pk Gocode_Ends.rk Gocode_Ends.g]
theorem Gocode_stacked.hρ : ∀ e ∈ Gocode_stacked.ρ, EntryOk Tryd.prog e :=
  ents_cons (ent (fn := Tryd.f17) Gocode_kinds.spec (by kernel_rfl) (by kernel_rfl) (by kernel_rfl) (by kernel_rfl)) (ents_cons (ent (fn := Tryd.f42) Gocode_places.spec (by kernel_rfl) (by kernel_rfl) (by kernel_rfl) (by kernel_rfl)) (ents_cons (ent (fn := Tryd.f46) Gocode_fits.spec (by kernel_rfl) (by kernel_rfl) (by kernel_rfl) (by kernel_rfl)) (ents_cons (ent (fn := Tryd.f24) Gocode_after.spec (by kernel_rfl) (by kernel_rfl) (by kernel_rfl) (by kernel_rfl)) (ents_cons (ent (fn := Tryd.f45) Gocode_Named.spec (by kernel_rfl) (by kernel_rfl) (by kernel_rfl) (by kernel_rfl)) (ents_cons (ent (fn := Tryd.f47) Gocode_leads.spec (by kernel_rfl) (by kernel_rfl) (by kernel_rfl) (by kernel_rfl)) (ents_cons (ent (fn := Tryd.f48) Gocode_Ends.spec (by kernel_rfl) (by kernel_rfl) (by kernel_rfl) (by kernel_rfl)) (ents_nil)))))))
def Gocode_stacked.fr250 : Fr := [(1, .bx (.st 26)), (3, .arr 57), (4, .own 3), (7, .int .i64), (19, .sl 34), (20, .int .i64), (21, .int .i64)]
def Gocode_stacked.ou250 : Outs := [(1, [])]
def Gocode_stacked.T250 (k : Nat) (x : Gocode_stacked.fr250.T) (κ : Kp (Tp Gocode_stacked.rk) Gocode_stacked.ou250) : Option (Tp Gocode_stacked.rk) := Gocode_stacked.l250 k x.1 x.2.1 x.2.2.1 x.2.2.2.1 x.2.2.2.2.1 x.2.2.2.2.2.1 x.2.2.2.2.2.2 κ.1
def Gocode_stacked.Λ0 : Cuts (Tp Gocode_stacked.rk) := cutsOf []
def Gocode_stacked.Λ : Cuts (Tp Gocode_stacked.rk) := cutsOf [(250, cut Tryd.prog Gocode_stacked.fr250 Gocode_stacked.ou250 (Gocode_stacked.T250 NN))]
theorem Gocode_stacked.c250 (A : Ks) (w0 : World) : CutOk Tryd.prog ⟨Tryd.f27.ntmps, 0, A⟩ w0 (kRet Tryd.prog Tryd.f27.results.toList Gocode_stacked.rk) (bodyOf Tryd.f27) 250 (cut Tryd.prog Gocode_stacked.fr250 Gocode_stacked.ou250 (Gocode_stacked.T250 NN)) :=
  loop_ok Gocode_stacked.hρ (Λ := Gocode_stacked.Λ0) (cuts_nil) (by kernel_rfl) (D := 64) (b := loopOf Tryd.f27 250) (by kernel_rfl) (by kernel_rfl) NN (fun x κ => by kernel_rfl) (fun k x κ => by kernel_rfl)
theorem Gocode_stacked.spec : Spec Tryd.prog 27 Gocode_stacked.pk Gocode_stacked.rk Gocode_stacked.g :=
  spec_of_body (fn := Tryd.f27) (c := bodyOf Tryd.f27) (by kernel_rfl) (by kernel_rfl) (by kernel_rfl) (by kernel_rfl) (ρ := Gocode_stacked.ρ) Gocode_stacked.hρ (Λ := Gocode_stacked.Λ) (fun A w0 => cuts_cons (Gocode_stacked.c250 A w0) (cuts_nil)) (fun x => by kernel_rfl)

/-! ### 11 bluebell/ocode.Check -/
def Gocode_Check.f (a0 : D) : Option Int :=
  (Gocode_large.f a0).bind fun r1 => bif r1 then some 2 else (Gocode_coded.f a0).bind fun r2 => bif (!r2) then some 60 else (Gocode_stacked.f a0).bind fun r3 => bif (!r3) then some 61 else some 0
def Gocode_Check.pk : List FK := [.st 26]
def Gocode_Check.rk : List FK := [.int .i64]
def Gocode_Check.g : Tp Gocode_Check.pk → Option (Tp Gocode_Check.rk) := fun x => Gocode_Check.f x
def Gocode_Check.ρ : List (Entry (Tp Gocode_Check.rk)) := [entry _ Tryd.prog 25 Gocode_large.pk Gocode_large.rk Gocode_large.g, entry _ Tryd.prog 26 Gocode_coded.pk Gocode_coded.rk Gocode_coded.g, entry _ Tryd.prog 27 Gocode_stacked.pk Gocode_stacked.rk Gocode_stacked.g]
theorem Gocode_Check.hρ : ∀ e ∈ Gocode_Check.ρ, EntryOk Tryd.prog e :=
  ents_cons (ent (fn := Tryd.f25) Gocode_large.spec (by kernel_rfl) (by kernel_rfl) (by kernel_rfl) (by kernel_rfl)) (ents_cons (ent (fn := Tryd.f26) Gocode_coded.spec (by kernel_rfl) (by kernel_rfl) (by kernel_rfl) (by kernel_rfl)) (ents_cons (ent (fn := Tryd.f27) Gocode_stacked.spec (by kernel_rfl) (by kernel_rfl) (by kernel_rfl) (by kernel_rfl)) (ents_nil)))
def Gocode_Check.Λ : Cuts (Tp Gocode_Check.rk) := cutsOf []
theorem Gocode_Check.spec : Spec Tryd.prog 11 Gocode_Check.pk Gocode_Check.rk Gocode_Check.g :=
  spec_of_body (fn := Tryd.f11) (c := bodyOf Tryd.f11) (by kernel_rfl) (by kernel_rfl) (by kernel_rfl) (by kernel_rfl) (ρ := Gocode_Check.ρ) Gocode_Check.hρ (Λ := Gocode_Check.Λ) (fun A w0 => cuts_nil) (fun x => by kernel_rfl)

/-! ### 9 bluebell/ocode.Depths -/
def Gocode_Depths.p130355 (v5 : List D) (v6 : List D) (v7 : Int) (v9 : D) (v17 : List D) (v18 : Int) (v19 : Int) (κ0 : (List D × List D × Int × List D × Int × Int) → Option (List D × Int)) : Option (List D × Int) :=
  gd (Nat.ble (v6.length + ([.i v7] : List D).length) lim) (gd (inB ((v9.cell 0).int) 31 && inB ((v9.cell 0).int) v5.length) (gd (Nat.blt ((v9.cell 0).int).toNat v5.length) ((Gocode_after.f v9 v7 (rd v5 ((v9.cell 0).int).toNat)).bind fun r3 => κ0 (v5, (v6 ++ ([.i v7] : List D)), r3, v17, v18, v19))))
def Gocode_Depths.l1018 : Nat → (List D) → (List D) → Int → (List D) → Int → Int → (List D → Option (List D × Int)) → Option (List D × Int)
  | 0, _, _, _, _, _, _, _ => none
  | k + 1, v5, v6, v7, v17, v18, v19, κ1 =>
    bif decide (v19 < v18) then gd (inB v19 v17.length) (bif ((((rd v17 v19.toNat).cell 0).int) == 24) then Gocode_Depths.p130355 v5 v6 0 (rd v17 v19.toNat) v17 v18 v19 (fun y4 => Gocode_Depths.l1018 k y4.1 y4.2.1 y4.2.2.1 y4.2.2.2.1 y4.2.2.2.2.1 (IntKind.i64.wrap (y4.2.2.2.2.2 + 1)) κ1) else Gocode_Depths.p130355 v5 v6 v7 (rd v17 v19.toNat) v17 v18 v19 (fun y5 => Gocode_Depths.l1018 k y5.1 y5.2.1 y5.2.2.1 y5.2.2.2.1 y5.2.2.2.2.1 (IntKind.i64.wrap (y5.2.2.2.2.2 + 1)) κ1)) else κ1 v6
def Gocode_Depths.f (a0 : D) : Option (List D × Int) :=
  (Gocode_Check.f a0).bind fun r1 => bif (r1 != 0) then some ([], r1) else (Gocode_kinds.f).bind fun r2 => gd (Nat.beq (r2 : List D).length ((List.replicate 31 (.r [.s ByteArray.empty, .i 0, .i 0, .i 0] : D)) : List D).length && Nat.beq (r2 : List D).length 31) (Gocode_Depths.l1018 NN r2 [] 0 ((a0.cell 2).list) (((a0.cell 2).list).length : Int) 0 (fun y6 => some (y6, 0)))
def Gocode_Depths.pk : List FK := [.st 26]
def Gocode_Depths.rk : List FK := [.own 3, .int .i64]
def Gocode_Depths.g : Tp Gocode_Depths.pk → Option (Tp Gocode_Depths.rk) := fun x => Gocode_Depths.f x
def Gocode_Depths.ρ : List (Entry (Tp Gocode_Depths.rk)) := [entry _ Tryd.prog 11 Gocode_Check.pk Gocode_Check.rk Gocode_Check.g, entry _ Tryd.prog 17 Gocode_kinds.pk Gocode_kinds.rk Gocode_kinds.g, entry _ Tryd.prog 24 Gocode_after.pk Gocode_after.rk Gocode_after.g]
theorem Gocode_Depths.hρ : ∀ e ∈ Gocode_Depths.ρ, EntryOk Tryd.prog e :=
  ents_cons (ent (fn := Tryd.f11) Gocode_Check.spec (by kernel_rfl) (by kernel_rfl) (by kernel_rfl) (by kernel_rfl)) (ents_cons (ent (fn := Tryd.f17) Gocode_kinds.spec (by kernel_rfl) (by kernel_rfl) (by kernel_rfl) (by kernel_rfl)) (ents_cons (ent (fn := Tryd.f24) Gocode_after.spec (by kernel_rfl) (by kernel_rfl) (by kernel_rfl) (by kernel_rfl)) (ents_nil)))
def Gocode_Depths.fr130355 : Fr := [(5, .arr 57), (6, .own 3), (7, .int .i64), (9, .bx (.st 34)), (17, .sl 34), (18, .int .i64), (19, .int .i64)]
def Gocode_Depths.ou130355 : Outs := [(0, [(5, .arr 57), (6, .own 3), (7, .int .i64), (17, .sl 34), (18, .int .i64), (19, .int .i64)])]
def Gocode_Depths.T130355 (x : Gocode_Depths.fr130355.T) (κ : Kp (Tp Gocode_Depths.rk) Gocode_Depths.ou130355) : Option (Tp Gocode_Depths.rk) := Gocode_Depths.p130355 x.1 x.2.1 x.2.2.1 x.2.2.2.1 x.2.2.2.2.1 x.2.2.2.2.2.1 x.2.2.2.2.2.2 κ.1
def Gocode_Depths.fr1018 : Fr := [(5, .arr 57), (6, .own 3), (7, .int .i64), (17, .sl 34), (18, .int .i64), (19, .int .i64)]
def Gocode_Depths.ou1018 : Outs := [(1, [(6, .own 3)])]
def Gocode_Depths.T1018 (k : Nat) (x : Gocode_Depths.fr1018.T) (κ : Kp (Tp Gocode_Depths.rk) Gocode_Depths.ou1018) : Option (Tp Gocode_Depths.rk) := Gocode_Depths.l1018 k x.1 x.2.1 x.2.2.1 x.2.2.2.1 x.2.2.2.2.1 x.2.2.2.2.2 κ.1
def Gocode_Depths.Λ0 : Cuts (Tp Gocode_Depths.rk) := cutsOf []
def Gocode_Depths.Λ1 : Cuts (Tp Gocode_Depths.rk) := cutsOf [(130355, cut Tryd.prog Gocode_Depths.fr130355 Gocode_Depths.ou130355 (Gocode_Depths.T130355))]
def Gocode_Depths.Λ : Cuts (Tp Gocode_Depths.rk) := cutsOf [(1018, cut Tryd.prog Gocode_Depths.fr1018 Gocode_Depths.ou1018 (Gocode_Depths.T1018 NN)), (130355, cut Tryd.prog Gocode_Depths.fr130355 Gocode_Depths.ou130355 (Gocode_Depths.T130355))]
theorem Gocode_Depths.c130355 (A : Ks) (w0 : World) : CutOk Tryd.prog ⟨Tryd.f9.ntmps, 0, A⟩ w0 (kRet Tryd.prog Tryd.f9.results.toList Gocode_Depths.rk) (bodyOf Tryd.f9) 130355 (cut Tryd.prog Gocode_Depths.fr130355 Gocode_Depths.ou130355 (Gocode_Depths.T130355)) :=
  cut_ok Gocode_Depths.hρ (Λ := Gocode_Depths.Λ0) (cuts_nil) (by kernel_rfl) (by kernel_rfl) (D := 64) (c := nodeOf Tryd.f9 130355) (by kernel_rfl) (by kernel_rfl) (fun x κ => by kernel_rfl)
theorem Gocode_Depths.c1018 (A : Ks) (w0 : World) : CutOk Tryd.prog ⟨Tryd.f9.ntmps, 0, A⟩ w0 (kRet Tryd.prog Tryd.f9.results.toList Gocode_Depths.rk) (bodyOf Tryd.f9) 1018 (cut Tryd.prog Gocode_Depths.fr1018 Gocode_Depths.ou1018 (Gocode_Depths.T1018 NN)) :=
  loop_ok Gocode_Depths.hρ (Λ := Gocode_Depths.Λ1) (cuts_cons (Gocode_Depths.c130355 A w0) (cuts_nil)) (by kernel_rfl) (D := 64) (b := loopOf Tryd.f9 1018) (by kernel_rfl) (by kernel_rfl) NN (fun x κ => by kernel_rfl) (fun k x κ => by kernel_rfl)
theorem Gocode_Depths.spec : Spec Tryd.prog 9 Gocode_Depths.pk Gocode_Depths.rk Gocode_Depths.g :=
  spec_of_body (fn := Tryd.f9) (c := bodyOf Tryd.f9) (by kernel_rfl) (by kernel_rfl) (by kernel_rfl) (by kernel_rfl) (ρ := Gocode_Depths.ρ) Gocode_Depths.hρ (Λ := Gocode_Depths.Λ) (fun A w0 => cuts_cons (Gocode_Depths.c1018 A w0) (cuts_cons (Gocode_Depths.c130355 A w0) (cuts_nil))) (fun x => by kernel_rfl)

/-! ### 10 bluebell/bluebellref00.EqInts -/
def Gr00_EqInts.l58 : Nat → (List D) → (List D) → Int → (Unit → Option Bool) → Option Bool
  | 0, _, _, _, _ => none
  | k + 1, v0, v1, v5, κ1 =>
    bif decide (v5 < (v0.length : Int)) then gd (inB v5 v0.length) (gd (inB v5 v1.length) (bif (((rd v0 v5.toNat).int) != ((rd v1 v5.toNat).int)) then some false else Gr00_EqInts.l58 k v0 v1 (IntKind.i64.wrap (v5 + 1)) κ1)) else κ1 ()
def Gr00_EqInts.f (a0 : List D) (a1 : List D) : Option Bool :=
  bif ((a0.length : Int) != (a1.length : Int)) then some false else Gr00_EqInts.l58 NN a0 a1 0 (fun y1 => some true)
def Gr00_EqInts.pk : List FK := [.sl 3, .sl 3]
def Gr00_EqInts.rk : List FK := [.bool]
def Gr00_EqInts.g : Tp Gr00_EqInts.pk → Option (Tp Gr00_EqInts.rk) := fun x => Gr00_EqInts.f x.1 x.2
def Gr00_EqInts.ρ : List (Entry (Tp Gr00_EqInts.rk)) := []
theorem Gr00_EqInts.hρ : ∀ e ∈ Gr00_EqInts.ρ, EntryOk Tryd.prog e :=
  ents_nil
def Gr00_EqInts.fr58 : Fr := [(0, .sl 3), (1, .sl 3), (5, .int .i64)]
def Gr00_EqInts.ou58 : Outs := [(1, [])]
def Gr00_EqInts.T58 (k : Nat) (x : Gr00_EqInts.fr58.T) (κ : Kp (Tp Gr00_EqInts.rk) Gr00_EqInts.ou58) : Option (Tp Gr00_EqInts.rk) := Gr00_EqInts.l58 k x.1 x.2.1 x.2.2 κ.1
def Gr00_EqInts.Λ0 : Cuts (Tp Gr00_EqInts.rk) := cutsOf []
def Gr00_EqInts.Λ : Cuts (Tp Gr00_EqInts.rk) := cutsOf [(58, cut Tryd.prog Gr00_EqInts.fr58 Gr00_EqInts.ou58 (Gr00_EqInts.T58 NN))]
theorem Gr00_EqInts.c58 (A : Ks) (w0 : World) : CutOk Tryd.prog ⟨Tryd.f10.ntmps, 0, A⟩ w0 (kRet Tryd.prog Tryd.f10.results.toList Gr00_EqInts.rk) (bodyOf Tryd.f10) 58 (cut Tryd.prog Gr00_EqInts.fr58 Gr00_EqInts.ou58 (Gr00_EqInts.T58 NN)) :=
  loop_ok Gr00_EqInts.hρ (Λ := Gr00_EqInts.Λ0) (cuts_nil) (by kernel_rfl) (D := 64) (b := loopOf Tryd.f10 58) (by kernel_rfl) (by kernel_rfl) NN (fun x κ => by kernel_rfl) (fun k x κ => by kernel_rfl)
theorem Gr00_EqInts.spec : Spec Tryd.prog 10 Gr00_EqInts.pk Gr00_EqInts.rk Gr00_EqInts.g :=
  spec_of_body (fn := Tryd.f10) (c := bodyOf Tryd.f10) (by kernel_rfl) (by kernel_rfl) (by kernel_rfl) (by kernel_rfl) (ρ := Gr00_EqInts.ρ) Gr00_EqInts.hρ (Λ := Gr00_EqInts.Λ) (fun A w0 => cuts_cons (Gr00_EqInts.c58 A w0) (cuts_nil)) (fun x => by kernel_rfl)

/-! ### 5 bluebell/bluebelllaw06.awake -/
def Gw06_awake.f : Option Bool :=
  (Gocode_Depths.f (.r [.s ByteArray.empty, .l [], .l ([.r [.i 24, .i 1, .i 0], .r [.i 1, .i 65, .i 0], .r [.i 25, .i 0, .i 0]] : List D), .l [], .i 1, .i 0])).bind fun r1 => (bif (r1.2 == 0) then Gr00_EqInts.f r1.1 ([.i 0, .i 2, .i 3] : List D) else some false).bind fun r2 => some ((r1.2 == 0) && r2)
def Gw06_awake.pk : List FK := []
def Gw06_awake.rk : List FK := [.bool]
def Gw06_awake.g : Tp Gw06_awake.pk → Option (Tp Gw06_awake.rk) := fun _ => Gw06_awake.f
def Gw06_awake.ρ : List (Entry (Tp Gw06_awake.rk)) := [entry _ Tryd.prog 9 Gocode_Depths.pk Gocode_Depths.rk Gocode_Depths.g, entry _ Tryd.prog 10 Gr00_EqInts.pk Gr00_EqInts.rk Gr00_EqInts.g]
theorem Gw06_awake.hρ : ∀ e ∈ Gw06_awake.ρ, EntryOk Tryd.prog e :=
  ents_cons (ent (fn := Tryd.f9) Gocode_Depths.spec (by kernel_rfl) (by kernel_rfl) (by kernel_rfl) (by kernel_rfl)) (ents_cons (ent (fn := Tryd.f10) Gr00_EqInts.spec (by kernel_rfl) (by kernel_rfl) (by kernel_rfl) (by kernel_rfl)) (ents_nil))
def Gw06_awake.Λ : Cuts (Tp Gw06_awake.rk) := cutsOf []
theorem Gw06_awake.spec : Spec Tryd.prog 5 Gw06_awake.pk Gw06_awake.rk Gw06_awake.g :=
  spec_of_body (fn := Tryd.f5) (c := bodyOf Tryd.f5) (by kernel_rfl) (by kernel_rfl) (by kernel_rfl) (by kernel_rfl) (ρ := Gw06_awake.ρ) Gw06_awake.hρ (Λ := Gw06_awake.Λ) (fun A w0 => cuts_nil) (fun x => by kernel_rfl)

/-! ### 12 bluebell/ocode.Text$1 -/
def Gocode_Text_1.f (a0 : ByteArray) (a1 : List D) : Option (List D) :=
  (GBuilder_WriteString.f a1 a0).bind fun r1 => (GBuilder_WriteByte.f r1.2.2 10).bind fun r2 => some r2.2
def Gocode_Text_1.pk : List FK := [.str, .bd 43 (.own 5)]
def Gocode_Text_1.rk : List FK := [.bd 43 (.own 5)]
def Gocode_Text_1.g : Tp Gocode_Text_1.pk → Option (Tp Gocode_Text_1.rk) := fun x => Gocode_Text_1.f x.1 x.2
def Gocode_Text_1.ρ : List (Entry (Tp Gocode_Text_1.rk)) := [entryIO _ Tryd.prog 13 GBuilder_WriteString.pk GBuilder_WriteString.rk [0] GBuilder_WriteString.g, entryIO _ Tryd.prog 14 GBuilder_WriteByte.pk GBuilder_WriteByte.rk [0] GBuilder_WriteByte.g]
theorem Gocode_Text_1.hρ : ∀ e ∈ Gocode_Text_1.ρ, EntryOk Tryd.prog e :=
  ents_cons (entIO (fn := Tryd.f13) GBuilder_WriteString.spec (by kernel_rfl) (by kernel_rfl) (by kernel_rfl) (by kernel_rfl)) (ents_cons (entIO (fn := Tryd.f14) GBuilder_WriteByte.spec (by kernel_rfl) (by kernel_rfl) (by kernel_rfl) (by kernel_rfl)) (ents_nil))
def Gocode_Text_1.Λ : Cuts (Tp Gocode_Text_1.rk) := cutsOf []
theorem Gocode_Text_1.spec : SpecIO Tryd.prog 12 Gocode_Text_1.pk [1] Gocode_Text_1.rk Gocode_Text_1.g :=
  spec_io_of_body (fn := Tryd.f12) (c := bodyOf Tryd.f12) (by kernel_rfl) (by kernel_rfl) (by kernel_rfl) (np := 2) (by kernel_rfl) (by kernel_rfl) (by kernel_rfl) (ρ := Gocode_Text_1.ρ) Gocode_Text_1.hρ (Λ := Gocode_Text_1.Λ) (fun A w0 => cuts_nil) (fun x => by kernel_rfl)

/-! ### 31 bluebell/ocode.operators -/
def Gocode_operators.f : Option (List D) :=
  (Gstrings_Fields.f strh8036656af6d38cfb).bind fun r1 => some r1
def Gocode_operators.pk : List FK := []
def Gocode_operators.rk : List FK := [.own 9]
def Gocode_operators.g : Tp Gocode_operators.pk → Option (Tp Gocode_operators.rk) := fun _ => Gocode_operators.f
def Gocode_operators.ρ : List (Entry (Tp Gocode_operators.rk)) := [entry _ Tryd.prog 52 Gstrings_Fields.pk Gstrings_Fields.rk Gstrings_Fields.g]
theorem Gocode_operators.hρ : ∀ e ∈ Gocode_operators.ρ, EntryOk Tryd.prog e :=
  ents_cons (ent (fn := Tryd.f52) Gstrings_Fields.spec (by kernel_rfl) (by kernel_rfl) (by kernel_rfl) (by kernel_rfl)) (ents_nil)
def Gocode_operators.Λ : Cuts (Tp Gocode_operators.rk) := cutsOf []
theorem Gocode_operators.spec : Spec Tryd.prog 31 Gocode_operators.pk Gocode_operators.rk Gocode_operators.g :=
  spec_of_body (fn := Tryd.f31) (c := bodyOf Tryd.f31) (by kernel_rfl) (by kernel_rfl) (by kernel_rfl) (by kernel_rfl) (ρ := Gocode_operators.ρ) Gocode_operators.hρ (Λ := Gocode_operators.Λ) (fun A w0 => cuts_nil) (fun x => by kernel_rfl)

/-! ### 32 bluebell/ocode.double -/
def Gocode_double.f (a0 : Int) : Option Bool :=
  some (((a0 == 24) || (a0 == 29)) || (a0 == 30))
def Gocode_double.pk : List FK := [.int .i64]
def Gocode_double.rk : List FK := [.bool]
def Gocode_double.g : Tp Gocode_double.pk → Option (Tp Gocode_double.rk) := fun x => Gocode_double.f x
def Gocode_double.ρ : List (Entry (Tp Gocode_double.rk)) := []
theorem Gocode_double.hρ : ∀ e ∈ Gocode_double.ρ, EntryOk Tryd.prog e :=
  ents_nil
def Gocode_double.Λ : Cuts (Tp Gocode_double.rk) := cutsOf []
theorem Gocode_double.spec : Spec Tryd.prog 32 Gocode_double.pk Gocode_double.rk Gocode_double.g :=
  spec_of_body (fn := Tryd.f32) (c := bodyOf Tryd.f32) (by kernel_rfl) (by kernel_rfl) (by kernel_rfl) (by kernel_rfl) (ρ := Gocode_double.ρ) Gocode_double.hρ (Λ := Gocode_double.Λ) (fun A w0 => cuts_nil) (fun x => by kernel_rfl)

/-! ### 18 bluebell/ocode.written -/
def Gocode_written.f (a0 : D) (a1 : D) : Option ByteArray :=
  gd (decide (((a1.cell 0).str).size + str20.size ≤ maxS)) (bif ((((a1.cell 1).int) == 7) || (((a1.cell 1).int) == 8)) then (Gocode_operators.f).bind fun r1 => gd (inB (IntKind.i64.wrap (((a0.cell 1).int) - 1)) r1.length) (gd (Nat.blt (IntKind.i64.wrap (((a0.cell 1).int) - 1)).toNat r1.length) (gd (decide ((((a1.cell 0).str) ++ str20).size + ((rd r1 (IntKind.i64.wrap (((a0.cell 1).int) - 1)).toNat).str).size ≤ maxS)) (some ((((a1.cell 0).str) ++ str20) ++ ((rd r1 (IntKind.i64.wrap (((a0.cell 1).int) - 1)).toNat).str))))) else (Gstrconv_Itoa.f ((a0.cell 1).int)).bind fun r2 => gd (decide ((((a1.cell 0).str) ++ str20).size + r2.size ≤ maxS)) ((Gocode_double.f ((a0.cell 0).int)).bind fun r3 => bif r3 then (Gstrconv_Itoa.f ((a0.cell 2).int)).bind fun r4 => gd (decide (str20.size + r4.size ≤ maxS)) (gd (decide (((((a1.cell 0).str) ++ str20) ++ r2).size + (str20 ++ r4).size ≤ maxS)) (some (((((a1.cell 0).str) ++ str20) ++ r2) ++ (str20 ++ r4)))) else some ((((a1.cell 0).str) ++ str20) ++ r2)))
def Gocode_written.pk : List FK := [.st 34, .st 57]
def Gocode_written.rk : List FK := [.str]
def Gocode_written.g : Tp Gocode_written.pk → Option (Tp Gocode_written.rk) := fun x => Gocode_written.f x.1 x.2
def Gocode_written.ρ : List (Entry (Tp Gocode_written.rk)) := [entry _ Tryd.prog 31 Gocode_operators.pk Gocode_operators.rk Gocode_operators.g, entry _ Tryd.prog 16 Gstrconv_Itoa.pk Gstrconv_Itoa.rk Gstrconv_Itoa.g, entry _ Tryd.prog 32 Gocode_double.pk Gocode_double.rk Gocode_double.g]
theorem Gocode_written.hρ : ∀ e ∈ Gocode_written.ρ, EntryOk Tryd.prog e :=
  ents_cons (ent (fn := Tryd.f31) Gocode_operators.spec (by kernel_rfl) (by kernel_rfl) (by kernel_rfl) (by kernel_rfl)) (ents_cons (ent (fn := Tryd.f16) Gstrconv_Itoa.spec (by kernel_rfl) (by kernel_rfl) (by kernel_rfl) (by kernel_rfl)) (ents_cons (ent (fn := Tryd.f32) Gocode_double.spec (by kernel_rfl) (by kernel_rfl) (by kernel_rfl) (by kernel_rfl)) (ents_nil)))
def Gocode_written.Λ : Cuts (Tp Gocode_written.rk) := cutsOf []
theorem Gocode_written.spec : Spec Tryd.prog 18 Gocode_written.pk Gocode_written.rk Gocode_written.g :=
  spec_of_body (fn := Tryd.f18) (c := bodyOf Tryd.f18) (by kernel_rfl) (by kernel_rfl) (by kernel_rfl) (by kernel_rfl) (ρ := Gocode_written.ρ) Gocode_written.hρ (Λ := Gocode_written.Λ) (fun A w0 => cuts_nil) (fun x => by kernel_rfl)

/-! ### 6 bluebell/ocode.Text -/
def Gocode_Text.l4182842 : Nat → D → (List D) → Unit → ByteArray → (List D) → Int → Int → (List D) → Int → Int → ((D × List D × Unit × ByteArray × List D × Int × Int) → Option (ByteArray × Int)) → Option (ByteArray × Int)
  | 0, _, _, _, _, _, _, _, _, _, _, _ => none
  | k + 1, v1, v5, v6, v11, v36, v37, v38, v55, v56, v57, κ3 =>
    bif decide (v57 < v56) then gd (inB v57 v55.length) ((Gstrconv_Itoa.f ((rd v55 v57.toNat).int)).bind fun r6 => gd (decide (str20.size + r6.size ≤ maxS)) (gd (decide (v11.size + (str20 ++ r6).size ≤ maxS)) (Gocode_Text.l4182842 k v1 v5 () (v11 ++ (str20 ++ r6)) v36 v37 v38 v55 v56 (IntKind.i64.wrap (v57 + 1)) κ3))) else κ3 (v1, v5, (), v11, v36, v37, v38)
def Gocode_Text.l2042 : Nat → D → (List D) → Unit → (List D) → Int → Int → ((D × List D × Unit) → Option (ByteArray × Int)) → Option (ByteArray × Int)
  | 0, _, _, _, _, _, _, _ => none
  | k + 1, v1, v5, v6, v36, v37, v38, κ1 =>
    bif decide (v38 < v37) then gd (inB v38 v36.length) (bif ((rd v36 v38.toNat).cell 1).bool then (Glex_Quote.f (((rd v36 v38.toNat).cell 0).str)).bind fun r4 => gd (decide (str7465787420.size + r4.1.size ≤ maxS)) ((Gocode_Text_1.f (str7465787420 ++ r4.1) v5).bind fun r5 => Gocode_Text.l2042 k v1 r5 () v36 v37 (IntKind.i64.wrap (v38 + 1)) κ1) else Gocode_Text.l4182842 NN v1 v5 () str776f726473 v36 v37 v38 (((rd v36 v38.toNat).cell 2).list) ((((rd v36 v38.toNat).cell 2).list).length : Int) 0 (fun y7 => (Gocode_Text_1.f y7.2.2.2.1 y7.2.1).bind fun r8 => Gocode_Text.l2042 k y7.1 r8 () y7.2.2.2.2.1 y7.2.2.2.2.2.1 (IntKind.i64.wrap (y7.2.2.2.2.2.2 + 1)) κ1)) else κ1 (v1, v5, ())
def Gocode_Text.l4090 : Nat → D → (List D) → Unit → (List D) → Int → Int → ((D × List D × Unit) → Option (ByteArray × Int)) → Option (ByteArray × Int)
  | 0, _, _, _, _, _, _, _ => none
  | k + 1, v1, v5, v6, v72, v73, v74, κ5 =>
    bif decide (v74 < v73) then gd (inB v74 v72.length) ((Gstrconv_Itoa.f (((rd v72 v74.toNat).cell 0).int)).bind fun r10 => gd (decide (str656e74727920.size + r10.size ≤ maxS)) (gd (decide ((str656e74727920 ++ r10).size + str20.size ≤ maxS)) ((Gstrconv_Itoa.f (((rd v72 v74.toNat).cell 1).int)).bind fun r11 => gd (decide (((str656e74727920 ++ r10) ++ str20).size + r11.size ≤ maxS)) ((Gocode_Text_1.f (((str656e74727920 ++ r10) ++ str20) ++ r11) v5).bind fun r12 => Gocode_Text.l4090 k v1 r12 () v72 v73 (IntKind.i64.wrap (v74 + 1)) κ5)))) else κ5 (v1, v5, ())
def Gocode_Text.l16378 : Nat → (List D) → Unit → (List D) → (List D) → Int → Int → ((List D × Unit) → Option (ByteArray × Int)) → Option (ByteArray × Int)
  | 0, _, _, _, _, _, _, _ => none
  | k + 1, v5, v6, v16, v92, v93, v94, κ7 =>
    bif decide (v94 < v93) then gd (inB v94 v92.length) (gd (inB (((rd v92 v94.toNat).cell 0).int) 31 && inB (((rd v92 v94.toNat).cell 0).int) v16.length) (gd (Nat.blt (((rd v92 v94.toNat).cell 0).int).toNat v16.length) ((Gocode_written.f (rd v92 v94.toNat) (rd v16 (((rd v92 v94.toNat).cell 0).int).toNat)).bind fun r15 => (Gocode_Text_1.f r15 v5).bind fun r16 => Gocode_Text.l16378 k r16 () v16 v92 v93 (IntKind.i64.wrap (v94 + 1)) κ7))) else κ7 (v5, ())
def Gocode_Text.f (a0 : D) : Option (ByteArray × Int) :=
  (Gocode_Check.f a0).bind fun r1 => bif (r1 != 0) then some (strNil, r1) else (Glex_Quote.f ((a0.cell 0).str)).bind fun r2 => gd (decide (str636f646520.size + r2.1.size ≤ maxS)) ((Gocode_Text_1.f (str636f646520 ++ r2.1) []).bind fun r3 => Gocode_Text.l2042 NN a0 r3 () ((a0.cell 1).list) (((a0.cell 1).list).length : Int) 0 (fun y9 => Gocode_Text.l4090 NN y9.1 y9.2.1 () ((y9.1.cell 3).list) (((y9.1.cell 3).list).length : Int) 0 (fun y13 => (Gocode_kinds.f).bind fun r14 => gd (Nat.beq (r14 : List D).length ((List.replicate 31 (.r [.s ByteArray.empty, .i 0, .i 0, .i 0] : D)) : List D).length && Nat.beq (r14 : List D).length 31) (Gocode_Text.l16378 NN y13.2.1 () r14 ((y13.1.cell 2).list) (((y13.1.cell 2).list).length : Int) 0 (fun y17 => (Gocode_Text_1.f str656e64 y17.1).bind fun r18 => (GBuilder_String.f r18).bind fun r19 => some (r19.1, 0))))))
def Gocode_Text.pk : List FK := [.st 26]
def Gocode_Text.rk : List FK := [.str, .int .i64]
def Gocode_Text.g : Tp Gocode_Text.pk → Option (Tp Gocode_Text.rk) := fun x => Gocode_Text.f x
def Gocode_Text.ρ : List (Entry (Tp Gocode_Text.rk)) := [entry _ Tryd.prog 11 Gocode_Check.pk Gocode_Check.rk Gocode_Check.g, entry _ Tryd.prog 15 Glex_Quote.pk Glex_Quote.rk Glex_Quote.g, entryIO _ Tryd.prog 12 Gocode_Text_1.pk Gocode_Text_1.rk [1] Gocode_Text_1.g, entry _ Tryd.prog 16 Gstrconv_Itoa.pk Gstrconv_Itoa.rk Gstrconv_Itoa.g, entry _ Tryd.prog 17 Gocode_kinds.pk Gocode_kinds.rk Gocode_kinds.g, entry _ Tryd.prog 18 Gocode_written.pk Gocode_written.rk Gocode_written.g, entryIO _ Tryd.prog 19 GBuilder_String.pk GBuilder_String.rk [0] GBuilder_String.g]
theorem Gocode_Text.hρ : ∀ e ∈ Gocode_Text.ρ, EntryOk Tryd.prog e :=
  ents_cons (ent (fn := Tryd.f11) Gocode_Check.spec (by kernel_rfl) (by kernel_rfl) (by kernel_rfl) (by kernel_rfl)) (ents_cons (ent (fn := Tryd.f15) Glex_Quote.spec (by kernel_rfl) (by kernel_rfl) (by kernel_rfl) (by kernel_rfl)) (ents_cons (entIO (fn := Tryd.f12) Gocode_Text_1.spec (by kernel_rfl) (by kernel_rfl) (by kernel_rfl) (by kernel_rfl)) (ents_cons (ent (fn := Tryd.f16) Gstrconv_Itoa.spec (by kernel_rfl) (by kernel_rfl) (by kernel_rfl) (by kernel_rfl)) (ents_cons (ent (fn := Tryd.f17) Gocode_kinds.spec (by kernel_rfl) (by kernel_rfl) (by kernel_rfl) (by kernel_rfl)) (ents_cons (ent (fn := Tryd.f18) Gocode_written.spec (by kernel_rfl) (by kernel_rfl) (by kernel_rfl) (by kernel_rfl)) (ents_cons (entIO (fn := Tryd.f19) GBuilder_String.spec (by kernel_rfl) (by kernel_rfl) (by kernel_rfl) (by kernel_rfl)) (ents_nil)))))))
def Gocode_Text.fr4182842 : Fr := [(1, .bx (.st 26)), (5, .bd 43 (.own 5)), (6, .fcl 12 5632), (11, .str), (36, .sl 52), (37, .int .i64), (38, .int .i64), (55, .sl 3), (56, .int .i64), (57, .int .i64)]
def Gocode_Text.ou4182842 : Outs := [(3, [(1, .bx (.st 26)), (5, .bd 43 (.own 5)), (6, .fcl 12 5632), (11, .str), (36, .sl 52), (37, .int .i64), (38, .int .i64)])]
def Gocode_Text.T4182842 (k : Nat) (x : Gocode_Text.fr4182842.T) (κ : Kp (Tp Gocode_Text.rk) Gocode_Text.ou4182842) : Option (Tp Gocode_Text.rk) := Gocode_Text.l4182842 k x.1 x.2.1 x.2.2.1 x.2.2.2.1 x.2.2.2.2.1 x.2.2.2.2.2.1 x.2.2.2.2.2.2.1 x.2.2.2.2.2.2.2.1 x.2.2.2.2.2.2.2.2.1 x.2.2.2.2.2.2.2.2.2 κ.1
def Gocode_Text.fr2042 : Fr := [(1, .bx (.st 26)), (5, .bd 43 (.own 5)), (6, .fcl 12 5632), (36, .sl 52), (37, .int .i64), (38, .int .i64)]
def Gocode_Text.ou2042 : Outs := [(1, [(1, .bx (.st 26)), (5, .bd 43 (.own 5)), (6, .fcl 12 5632)])]
def Gocode_Text.T2042 (k : Nat) (x : Gocode_Text.fr2042.T) (κ : Kp (Tp Gocode_Text.rk) Gocode_Text.ou2042) : Option (Tp Gocode_Text.rk) := Gocode_Text.l2042 k x.1 x.2.1 x.2.2.1 x.2.2.2.1 x.2.2.2.2.1 x.2.2.2.2.2 κ.1
def Gocode_Text.fr4090 : Fr := [(1, .bx (.st 26)), (5, .bd 43 (.own 5)), (6, .fcl 12 5632), (72, .sl 55), (73, .int .i64), (74, .int .i64)]
def Gocode_Text.ou4090 : Outs := [(5, [(1, .bx (.st 26)), (5, .bd 43 (.own 5)), (6, .fcl 12 5632)])]
def Gocode_Text.T4090 (k : Nat) (x : Gocode_Text.fr4090.T) (κ : Kp (Tp Gocode_Text.rk) Gocode_Text.ou4090) : Option (Tp Gocode_Text.rk) := Gocode_Text.l4090 k x.1 x.2.1 x.2.2.1 x.2.2.2.1 x.2.2.2.2.1 x.2.2.2.2.2 κ.1
def Gocode_Text.fr16378 : Fr := [(5, .bd 43 (.own 5)), (6, .fcl 12 5632), (16, .arr 57), (92, .sl 34), (93, .int .i64), (94, .int .i64)]
def Gocode_Text.ou16378 : Outs := [(7, [(5, .bd 43 (.own 5)), (6, .fcl 12 5632)])]
def Gocode_Text.T16378 (k : Nat) (x : Gocode_Text.fr16378.T) (κ : Kp (Tp Gocode_Text.rk) Gocode_Text.ou16378) : Option (Tp Gocode_Text.rk) := Gocode_Text.l16378 k x.1 x.2.1 x.2.2.1 x.2.2.2.1 x.2.2.2.2.1 x.2.2.2.2.2 κ.1
def Gocode_Text.Λ0 : Cuts (Tp Gocode_Text.rk) := cutsOf []
def Gocode_Text.Λ1 : Cuts (Tp Gocode_Text.rk) := cutsOf [(4182842, cut Tryd.prog Gocode_Text.fr4182842 Gocode_Text.ou4182842 (Gocode_Text.T4182842 NN))]
def Gocode_Text.Λ2 : Cuts (Tp Gocode_Text.rk) := cutsOf [(2042, cut Tryd.prog Gocode_Text.fr2042 Gocode_Text.ou2042 (Gocode_Text.T2042 NN)), (4182842, cut Tryd.prog Gocode_Text.fr4182842 Gocode_Text.ou4182842 (Gocode_Text.T4182842 NN))]
def Gocode_Text.Λ3 : Cuts (Tp Gocode_Text.rk) := cutsOf [(4090, cut Tryd.prog Gocode_Text.fr4090 Gocode_Text.ou4090 (Gocode_Text.T4090 NN)), (2042, cut Tryd.prog Gocode_Text.fr2042 Gocode_Text.ou2042 (Gocode_Text.T2042 NN)), (4182842, cut Tryd.prog Gocode_Text.fr4182842 Gocode_Text.ou4182842 (Gocode_Text.T4182842 NN))]
def Gocode_Text.Λ : Cuts (Tp Gocode_Text.rk) := cutsOf [(16378, cut Tryd.prog Gocode_Text.fr16378 Gocode_Text.ou16378 (Gocode_Text.T16378 NN)), (4090, cut Tryd.prog Gocode_Text.fr4090 Gocode_Text.ou4090 (Gocode_Text.T4090 NN)), (2042, cut Tryd.prog Gocode_Text.fr2042 Gocode_Text.ou2042 (Gocode_Text.T2042 NN)), (4182842, cut Tryd.prog Gocode_Text.fr4182842 Gocode_Text.ou4182842 (Gocode_Text.T4182842 NN))]
theorem Gocode_Text.c4182842 (A : Ks) (w0 : World) : CutOk Tryd.prog ⟨Tryd.f6.ntmps, 0, A⟩ w0 (kRet Tryd.prog Tryd.f6.results.toList Gocode_Text.rk) (bodyOf Tryd.f6) 4182842 (cut Tryd.prog Gocode_Text.fr4182842 Gocode_Text.ou4182842 (Gocode_Text.T4182842 NN)) :=
  loop_ok Gocode_Text.hρ (Λ := Gocode_Text.Λ0) (cuts_nil) (by kernel_rfl) (D := 64) (b := loopOf Tryd.f6 4182842) (by kernel_rfl) (by kernel_rfl) NN (fun x κ => by kernel_rfl) (fun k x κ => by kernel_rfl)
theorem Gocode_Text.c2042 (A : Ks) (w0 : World) : CutOk Tryd.prog ⟨Tryd.f6.ntmps, 0, A⟩ w0 (kRet Tryd.prog Tryd.f6.results.toList Gocode_Text.rk) (bodyOf Tryd.f6) 2042 (cut Tryd.prog Gocode_Text.fr2042 Gocode_Text.ou2042 (Gocode_Text.T2042 NN)) :=
  loop_ok Gocode_Text.hρ (Λ := Gocode_Text.Λ1) (cuts_cons (Gocode_Text.c4182842 A w0) (cuts_nil)) (by kernel_rfl) (D := 64) (b := loopOf Tryd.f6 2042) (by kernel_rfl) (by kernel_rfl) NN (fun x κ => by kernel_rfl) (fun k x κ => by kernel_rfl)
theorem Gocode_Text.c4090 (A : Ks) (w0 : World) : CutOk Tryd.prog ⟨Tryd.f6.ntmps, 0, A⟩ w0 (kRet Tryd.prog Tryd.f6.results.toList Gocode_Text.rk) (bodyOf Tryd.f6) 4090 (cut Tryd.prog Gocode_Text.fr4090 Gocode_Text.ou4090 (Gocode_Text.T4090 NN)) :=
  loop_ok Gocode_Text.hρ (Λ := Gocode_Text.Λ2) (cuts_cons (Gocode_Text.c2042 A w0) (cuts_cons (Gocode_Text.c4182842 A w0) (cuts_nil))) (by kernel_rfl) (D := 64) (b := loopOf Tryd.f6 4090) (by kernel_rfl) (by kernel_rfl) NN (fun x κ => by kernel_rfl) (fun k x κ => by kernel_rfl)
theorem Gocode_Text.c16378 (A : Ks) (w0 : World) : CutOk Tryd.prog ⟨Tryd.f6.ntmps, 0, A⟩ w0 (kRet Tryd.prog Tryd.f6.results.toList Gocode_Text.rk) (bodyOf Tryd.f6) 16378 (cut Tryd.prog Gocode_Text.fr16378 Gocode_Text.ou16378 (Gocode_Text.T16378 NN)) :=
  loop_ok Gocode_Text.hρ (Λ := Gocode_Text.Λ3) (cuts_cons (Gocode_Text.c4090 A w0) (cuts_cons (Gocode_Text.c2042 A w0) (cuts_cons (Gocode_Text.c4182842 A w0) (cuts_nil)))) (by kernel_rfl) (D := 64) (b := loopOf Tryd.f6 16378) (by kernel_rfl) (by kernel_rfl) NN (fun x κ => by kernel_rfl) (fun k x κ => by kernel_rfl)
theorem Gocode_Text.spec : Spec Tryd.prog 6 Gocode_Text.pk Gocode_Text.rk Gocode_Text.g :=
  spec_of_body (fn := Tryd.f6) (c := bodyOf Tryd.f6) (by kernel_rfl) (by kernel_rfl) (by kernel_rfl) (by kernel_rfl) (ρ := Gocode_Text.ρ) Gocode_Text.hρ (Λ := Gocode_Text.Λ) (fun A w0 => cuts_cons (Gocode_Text.c16378 A w0) (cuts_cons (Gocode_Text.c4090 A w0) (cuts_cons (Gocode_Text.c2042 A w0) (cuts_cons (Gocode_Text.c4182842 A w0) (cuts_nil))))) (fun x => by kernel_rfl)

/-! ### 33 bluebell/bluebellref06.tooMuch -/
def Gr06_tooMuch.l122 : Nat → D → Int → Int → (Int → Option Bool) → Option Bool
  | 0, _, _, _, _ => none
  | k + 1, v1, v3, v4, κ1 =>
    bif decide (v4 < (((v1.cell 1).list).length : Int)) then gd (inB v4 ((v1.cell 1).list).length) (gd (inB v4 ((v1.cell 1).list).length) (bif ((rd ((v1.cell 1).list) v4.toNat).cell 1).bool then gd (inB v4 ((v1.cell 1).list).length) (gd (!(2 == 0)) (Gr06_tooMuch.l122 k v1 (IntKind.i64.wrap ((IntKind.i64.wrap (v3 + ((((rd ((v1.cell 1).list) v4.toNat).cell 2).list).length : Int))) + (IntKind.i64.wrap ((IntKind.i64.wrap (((((rd ((v1.cell 1).list) v4.toNat).cell 0).str).size : Int) + 2)).tdiv 2)))) (IntKind.i64.wrap (v4 + 1)) κ1)) else Gr06_tooMuch.l122 k v1 (IntKind.i64.wrap (v3 + ((((rd ((v1.cell 1).list) v4.toNat).cell 2).list).length : Int))) (IntKind.i64.wrap (v4 + 1)) κ1)) else κ1 v3
def Gr06_tooMuch.f (a0 : D) : Option Bool :=
  bif ((((decide ((((a0.cell 2).list).length : Int) > 40000)) || (decide ((((a0.cell 1).list).length : Int) > 2000))) || (decide (((a0.cell 4).int) > 200))) || (decide (((a0.cell 5).int) > 20000))) then some true else Gr06_tooMuch.l122 NN a0 0 0 (fun y1 => some (decide (y1 > 7800)))
def Gr06_tooMuch.pk : List FK := [.st 26]
def Gr06_tooMuch.rk : List FK := [.bool]
def Gr06_tooMuch.g : Tp Gr06_tooMuch.pk → Option (Tp Gr06_tooMuch.rk) := fun x => Gr06_tooMuch.f x
def Gr06_tooMuch.ρ : List (Entry (Tp Gr06_tooMuch.rk)) := []
theorem Gr06_tooMuch.hρ : ∀ e ∈ Gr06_tooMuch.ρ, EntryOk Tryd.prog e :=
  ents_nil
def Gr06_tooMuch.fr122 : Fr := [(1, .bx (.st 26)), (3, .int .i64), (4, .int .i64)]
def Gr06_tooMuch.ou122 : Outs := [(1, [(3, .int .i64)])]
def Gr06_tooMuch.T122 (k : Nat) (x : Gr06_tooMuch.fr122.T) (κ : Kp (Tp Gr06_tooMuch.rk) Gr06_tooMuch.ou122) : Option (Tp Gr06_tooMuch.rk) := Gr06_tooMuch.l122 k x.1 x.2.1 x.2.2 κ.1
def Gr06_tooMuch.Λ0 : Cuts (Tp Gr06_tooMuch.rk) := cutsOf []
def Gr06_tooMuch.Λ : Cuts (Tp Gr06_tooMuch.rk) := cutsOf [(122, cut Tryd.prog Gr06_tooMuch.fr122 Gr06_tooMuch.ou122 (Gr06_tooMuch.T122 NN))]
theorem Gr06_tooMuch.c122 (A : Ks) (w0 : World) : CutOk Tryd.prog ⟨Tryd.f33.ntmps, 0, A⟩ w0 (kRet Tryd.prog Tryd.f33.results.toList Gr06_tooMuch.rk) (bodyOf Tryd.f33) 122 (cut Tryd.prog Gr06_tooMuch.fr122 Gr06_tooMuch.ou122 (Gr06_tooMuch.T122 NN)) :=
  loop_ok Gr06_tooMuch.hρ (Λ := Gr06_tooMuch.Λ0) (cuts_nil) (by kernel_rfl) (D := 64) (b := loopOf Tryd.f33 122) (by kernel_rfl) (by kernel_rfl) NN (fun x κ => by kernel_rfl) (fun k x κ => by kernel_rfl)
theorem Gr06_tooMuch.spec : Spec Tryd.prog 33 Gr06_tooMuch.pk Gr06_tooMuch.rk Gr06_tooMuch.g :=
  spec_of_body (fn := Tryd.f33) (c := bodyOf Tryd.f33) (by kernel_rfl) (by kernel_rfl) (by kernel_rfl) (by kernel_rfl) (ρ := Gr06_tooMuch.ρ) Gr06_tooMuch.hρ (Λ := Gr06_tooMuch.Λ) (fun A w0 => cuts_cons (Gr06_tooMuch.c122 A w0) (cuts_nil)) (fun x => by kernel_rfl)

/-! ### 21 bluebell/bluebellref02.Quote -/
def Gr02_Quote.l58 : Nat → ByteArray → ByteArray → Int → ((ByteArray × ByteArray) → Option (ByteArray × Int)) → Option (ByteArray × Int)
  | 0, _, _, _, _ => none
  | k + 1, v0, v4, v5, κ1 =>
    bif decide (v5 < (v0.size : Int)) then gd (inB v5 v0.size) (bif ((bt v0 v5.toNat) == 10) then gd (decide (v4.size + str2a6e.size ≤ maxS)) (Gr02_Quote.l58 k v0 (v4 ++ str2a6e) (IntKind.i64.wrap (v5 + 1)) κ1) else bif ((bt v0 v5.toNat) == 9) then gd (decide (v4.size + str2a74.size ≤ maxS)) (Gr02_Quote.l58 k v0 (v4 ++ str2a74) (IntKind.i64.wrap (v5 + 1)) κ1) else bif (((bt v0 v5.toNat) == 42) || ((bt v0 v5.toNat) == 34)) then gd (decide (0 ≤ v5) && (decide (v5 ≤ (IntKind.i64.wrap (v5 + 1))) && decide ((IntKind.i64.wrap (v5 + 1)) ≤ (v0.size : Int)))) (gd (decide (str2a.size + (v0.extract v5.toNat (IntKind.i64.wrap (v5 + 1)).toNat).size ≤ maxS)) (gd (decide (v4.size + (str2a ++ (v0.extract v5.toNat (IntKind.i64.wrap (v5 + 1)).toNat)).size ≤ maxS)) (Gr02_Quote.l58 k v0 (v4 ++ (str2a ++ (v0.extract v5.toNat (IntKind.i64.wrap (v5 + 1)).toNat))) (IntKind.i64.wrap (v5 + 1)) κ1))) else bif ((decide ((bt v0 v5.toNat) < 32)) || (decide ((bt v0 v5.toNat) > 126))) then some (strNil, 3) else gd (decide (0 ≤ v5) && (decide (v5 ≤ (IntKind.i64.wrap (v5 + 1))) && decide ((IntKind.i64.wrap (v5 + 1)) ≤ (v0.size : Int)))) (gd (decide (v4.size + (v0.extract v5.toNat (IntKind.i64.wrap (v5 + 1)).toNat).size ≤ maxS)) (Gr02_Quote.l58 k v0 (v4 ++ (v0.extract v5.toNat (IntKind.i64.wrap (v5 + 1)).toNat)) (IntKind.i64.wrap (v5 + 1)) κ1))) else κ1 (v0, v4)
def Gr02_Quote.f (a0 : ByteArray) : Option (ByteArray × Int) :=
  Gr02_Quote.l58 NN a0 str22 0 (fun y1 => bif decide ((y1.1.size : Int) > 100) then some (strNil, 2) else gd (decide (y1.2.size + str22.size ≤ maxS)) (some ((y1.2 ++ str22), 0)))
def Gr02_Quote.pk : List FK := [.str]
def Gr02_Quote.rk : List FK := [.str, .int .i64]
def Gr02_Quote.g : Tp Gr02_Quote.pk → Option (Tp Gr02_Quote.rk) := fun x => Gr02_Quote.f x
def Gr02_Quote.ρ : List (Entry (Tp Gr02_Quote.rk)) := []
theorem Gr02_Quote.hρ : ∀ e ∈ Gr02_Quote.ρ, EntryOk Tryd.prog e :=
  ents_nil
def Gr02_Quote.fr58 : Fr := [(0, .str), (4, .str), (5, .int .i64)]
def Gr02_Quote.ou58 : Outs := [(1, [(0, .str), (4, .str)])]
def Gr02_Quote.T58 (k : Nat) (x : Gr02_Quote.fr58.T) (κ : Kp (Tp Gr02_Quote.rk) Gr02_Quote.ou58) : Option (Tp Gr02_Quote.rk) := Gr02_Quote.l58 k x.1 x.2.1 x.2.2 κ.1
def Gr02_Quote.Λ0 : Cuts (Tp Gr02_Quote.rk) := cutsOf []
def Gr02_Quote.Λ : Cuts (Tp Gr02_Quote.rk) := cutsOf [(58, cut Tryd.prog Gr02_Quote.fr58 Gr02_Quote.ou58 (Gr02_Quote.T58 NN))]
theorem Gr02_Quote.c58 (A : Ks) (w0 : World) : CutOk Tryd.prog ⟨Tryd.f21.ntmps, 0, A⟩ w0 (kRet Tryd.prog Tryd.f21.results.toList Gr02_Quote.rk) (bodyOf Tryd.f21) 58 (cut Tryd.prog Gr02_Quote.fr58 Gr02_Quote.ou58 (Gr02_Quote.T58 NN)) :=
  loop_ok Gr02_Quote.hρ (Λ := Gr02_Quote.Λ0) (cuts_nil) (by kernel_rfl) (D := 64) (b := loopOf Tryd.f21 58) (by kernel_rfl) (by kernel_rfl) NN (fun x κ => by kernel_rfl) (fun k x κ => by kernel_rfl)
theorem Gr02_Quote.spec : Spec Tryd.prog 21 Gr02_Quote.pk Gr02_Quote.rk Gr02_Quote.g :=
  spec_of_body (fn := Tryd.f21) (c := bodyOf Tryd.f21) (by kernel_rfl) (by kernel_rfl) (by kernel_rfl) (by kernel_rfl) (ρ := Gr02_Quote.ρ) Gr02_Quote.hρ (Λ := Gr02_Quote.Λ) (fun A w0 => cuts_cons (Gr02_Quote.c58 A w0) (cuts_nil)) (fun x => by kernel_rfl)

/-! ### 53 bluebell/bluebellref06.in -/
def Gr06_in.f (a0 : Int) (a1 : Int) (a2 : Int) : Option Bool :=
  some ((decide (a0 ≥ a1)) && (decide (a0 ≤ a2)))
def Gr06_in.pk : List FK := [.int .i64, .int .i64, .int .i64]
def Gr06_in.rk : List FK := [.bool]
def Gr06_in.g : Tp Gr06_in.pk → Option (Tp Gr06_in.rk) := fun x => Gr06_in.f x.1 x.2.1 x.2.2
def Gr06_in.ρ : List (Entry (Tp Gr06_in.rk)) := []
theorem Gr06_in.hρ : ∀ e ∈ Gr06_in.ρ, EntryOk Tryd.prog e :=
  ents_nil
def Gr06_in.Λ : Cuts (Tp Gr06_in.rk) := cutsOf []
theorem Gr06_in.spec : Spec Tryd.prog 53 Gr06_in.pk Gr06_in.rk Gr06_in.g :=
  spec_of_body (fn := Tryd.f53) (c := bodyOf Tryd.f53) (by kernel_rfl) (by kernel_rfl) (by kernel_rfl) (by kernel_rfl) (ρ := Gr06_in.ρ) Gr06_in.hρ (Λ := Gr06_in.Λ) (fun A w0 => cuts_nil) (fun x => by kernel_rfl)

/-! ### 34 bluebell/bluebellref06.areas -/
def Gr06_areas.l13470 : Nat → D → Int → D → Int → ((D × Int) → Option Bool) → Option Bool
  | 0, _, _, _, _, _ => none
  | k + 1, v1, v3, v4, v7, κ3 =>
    bif decide (v7 < (((v4.cell 2).list).length : Int)) then gd (inB v7 ((v4.cell 2).list).length) ((Gr06_in.f ((rd ((v4.cell 2).list) v7.toNat).int) (-2147483648) 2147483647).bind fun r2 => bif (!r2) then some false else Gr06_areas.l13470 k v1 v3 v4 (IntKind.i64.wrap (v7 + 1)) κ3) else κ3 (v1, v3)
def Gr06_areas.l26 : Nat → D → Int → (D → Option Bool) → Option Bool
  | 0, _, _, _ => none
  | k + 1, v1, v3, κ1 =>
    bif decide (v3 < (((v1.cell 1).list).length : Int)) then gd (inB v3 ((v1.cell 1).list).length) (bif ((rd ((v1.cell 1).list) v3.toNat).cell 1).bool then (Gr02_Quote.f (((rd ((v1.cell 1).list) v3.toNat).cell 0).str)).bind fun r1 => bif ((r1.2 != 0) || (decide (((((rd ((v1.cell 1).list) v3.toNat).cell 2).list).length : Int) > 0))) then some false else Gr06_areas.l26 k v1 (IntKind.i64.wrap (v3 + 1)) κ1 else bif ((!((((rd ((v1.cell 1).list) v3.toNat).cell 0).str).toList == strNil.toList)) || (((((rd ((v1.cell 1).list) v3.toNat).cell 2).list).length : Int) == 0)) then some false else Gr06_areas.l13470 NN v1 v3 (rd ((v1.cell 1).list) v3.toNat) 0 (fun y3 => Gr06_areas.l26 k y3.1 (IntKind.i64.wrap (y3.2 + 1)) κ1)) else κ1 v1
def Gr06_areas.l14926 : Nat → D → Int → D → Int → ((D × Int) → Option Bool) → Option Bool
  | 0, _, _, _, _, _ => none
  | k + 1, v1, v8, v9, v10, κ7 =>
    bif decide (v10 < v8) then gd (inB v10 ((v1.cell 3).list).length) (bif ((((rd ((v1.cell 3).list) v10.toNat).cell 0).int) == ((v9.cell 0).int)) then some false else Gr06_areas.l14926 k v1 v8 v9 (IntKind.i64.wrap (v10 + 1)) κ7) else κ7 (v1, v8)
def Gr06_areas.l58 : Nat → D → Int → (D → Option Bool) → Option Bool
  | 0, _, _, _ => none
  | k + 1, v1, v8, κ5 =>
    bif decide (v8 < (((v1.cell 3).list).length : Int)) then gd (inB v8 ((v1.cell 3).list).length) ((Gr06_in.f (((rd ((v1.cell 3).list) v8.toNat).cell 0).int) 1 199).bind fun r5 => (bif (!(!r5)) then Gr06_in.f (((rd ((v1.cell 3).list) v8.toNat).cell 1).int) 1 ((v1.cell 4).int) else some false).bind fun r6 => bif ((!r5) || (!r6)) then some false else Gr06_areas.l14926 NN v1 v8 (rd ((v1.cell 3).list) v8.toNat) 0 (fun y7 => Gr06_areas.l58 k y7.1 (IntKind.i64.wrap (y7.2 + 1)) κ5)) else κ5 v1
def Gr06_areas.f (a0 : D) : Option Bool :=
  Gr06_areas.l26 NN a0 0 (fun y4 => Gr06_areas.l58 NN y4 0 (fun y8 => (Gr02_Quote.f ((y8.cell 0).str)).bind fun r9 => some (r9.2 == 0)))
def Gr06_areas.pk : List FK := [.st 26]
def Gr06_areas.rk : List FK := [.bool]
def Gr06_areas.g : Tp Gr06_areas.pk → Option (Tp Gr06_areas.rk) := fun x => Gr06_areas.f x
def Gr06_areas.ρ : List (Entry (Tp Gr06_areas.rk)) := [entry _ Tryd.prog 21 Gr02_Quote.pk Gr02_Quote.rk Gr02_Quote.g, entry _ Tryd.prog 53 Gr06_in.pk Gr06_in.rk Gr06_in.g]
theorem Gr06_areas.hρ : ∀ e ∈ Gr06_areas.ρ, EntryOk Tryd.prog e :=
  ents_cons (ent (fn := Tryd.f21) Gr02_Quote.spec (by kernel_rfl) (by kernel_rfl) (by kernel_rfl) (by kernel_rfl)) (ents_cons (ent (fn := Tryd.f53) Gr06_in.spec (by kernel_rfl) (by kernel_rfl) (by kernel_rfl) (by kernel_rfl)) (ents_nil))
def Gr06_areas.fr13470 : Fr := [(1, .bx (.st 26)), (3, .int .i64), (4, .bx (.st 52)), (7, .int .i64)]
def Gr06_areas.ou13470 : Outs := [(3, [(1, .bx (.st 26)), (3, .int .i64)])]
def Gr06_areas.T13470 (k : Nat) (x : Gr06_areas.fr13470.T) (κ : Kp (Tp Gr06_areas.rk) Gr06_areas.ou13470) : Option (Tp Gr06_areas.rk) := Gr06_areas.l13470 k x.1 x.2.1 x.2.2.1 x.2.2.2 κ.1
def Gr06_areas.fr26 : Fr := [(1, .bx (.st 26)), (3, .int .i64)]
def Gr06_areas.ou26 : Outs := [(1, [(1, .bx (.st 26))])]
def Gr06_areas.T26 (k : Nat) (x : Gr06_areas.fr26.T) (κ : Kp (Tp Gr06_areas.rk) Gr06_areas.ou26) : Option (Tp Gr06_areas.rk) := Gr06_areas.l26 k x.1 x.2 κ.1
def Gr06_areas.fr14926 : Fr := [(1, .bx (.st 26)), (8, .int .i64), (9, .bx (.st 55)), (10, .int .i64)]
def Gr06_areas.ou14926 : Outs := [(7, [(1, .bx (.st 26)), (8, .int .i64)])]
def Gr06_areas.T14926 (k : Nat) (x : Gr06_areas.fr14926.T) (κ : Kp (Tp Gr06_areas.rk) Gr06_areas.ou14926) : Option (Tp Gr06_areas.rk) := Gr06_areas.l14926 k x.1 x.2.1 x.2.2.1 x.2.2.2 κ.1
def Gr06_areas.fr58 : Fr := [(1, .bx (.st 26)), (8, .int .i64)]
def Gr06_areas.ou58 : Outs := [(5, [(1, .bx (.st 26))])]
def Gr06_areas.T58 (k : Nat) (x : Gr06_areas.fr58.T) (κ : Kp (Tp Gr06_areas.rk) Gr06_areas.ou58) : Option (Tp Gr06_areas.rk) := Gr06_areas.l58 k x.1 x.2 κ.1
def Gr06_areas.Λ0 : Cuts (Tp Gr06_areas.rk) := cutsOf []
def Gr06_areas.Λ1 : Cuts (Tp Gr06_areas.rk) := cutsOf [(13470, cut Tryd.prog Gr06_areas.fr13470 Gr06_areas.ou13470 (Gr06_areas.T13470 NN))]
def Gr06_areas.Λ2 : Cuts (Tp Gr06_areas.rk) := cutsOf [(26, cut Tryd.prog Gr06_areas.fr26 Gr06_areas.ou26 (Gr06_areas.T26 NN)), (13470, cut Tryd.prog Gr06_areas.fr13470 Gr06_areas.ou13470 (Gr06_areas.T13470 NN))]
def Gr06_areas.Λ3 : Cuts (Tp Gr06_areas.rk) := cutsOf [(14926, cut Tryd.prog Gr06_areas.fr14926 Gr06_areas.ou14926 (Gr06_areas.T14926 NN)), (26, cut Tryd.prog Gr06_areas.fr26 Gr06_areas.ou26 (Gr06_areas.T26 NN)), (13470, cut Tryd.prog Gr06_areas.fr13470 Gr06_areas.ou13470 (Gr06_areas.T13470 NN))]
def Gr06_areas.Λ : Cuts (Tp Gr06_areas.rk) := cutsOf [(58, cut Tryd.prog Gr06_areas.fr58 Gr06_areas.ou58 (Gr06_areas.T58 NN)), (14926, cut Tryd.prog Gr06_areas.fr14926 Gr06_areas.ou14926 (Gr06_areas.T14926 NN)), (26, cut Tryd.prog Gr06_areas.fr26 Gr06_areas.ou26 (Gr06_areas.T26 NN)), (13470, cut Tryd.prog Gr06_areas.fr13470 Gr06_areas.ou13470 (Gr06_areas.T13470 NN))]
theorem Gr06_areas.c13470 (A : Ks) (w0 : World) : CutOk Tryd.prog ⟨Tryd.f34.ntmps, 0, A⟩ w0 (kRet Tryd.prog Tryd.f34.results.toList Gr06_areas.rk) (bodyOf Tryd.f34) 13470 (cut Tryd.prog Gr06_areas.fr13470 Gr06_areas.ou13470 (Gr06_areas.T13470 NN)) :=
  loop_ok Gr06_areas.hρ (Λ := Gr06_areas.Λ0) (cuts_nil) (by kernel_rfl) (D := 64) (b := loopOf Tryd.f34 13470) (by kernel_rfl) (by kernel_rfl) NN (fun x κ => by kernel_rfl) (fun k x κ => by kernel_rfl)
theorem Gr06_areas.c26 (A : Ks) (w0 : World) : CutOk Tryd.prog ⟨Tryd.f34.ntmps, 0, A⟩ w0 (kRet Tryd.prog Tryd.f34.results.toList Gr06_areas.rk) (bodyOf Tryd.f34) 26 (cut Tryd.prog Gr06_areas.fr26 Gr06_areas.ou26 (Gr06_areas.T26 NN)) :=
  loop_ok Gr06_areas.hρ (Λ := Gr06_areas.Λ1) (cuts_cons (Gr06_areas.c13470 A w0) (cuts_nil)) (by kernel_rfl) (D := 64) (b := loopOf Tryd.f34 26) (by kernel_rfl) (by kernel_rfl) NN (fun x κ => by kernel_rfl) (fun k x κ => by kernel_rfl)
theorem Gr06_areas.c14926 (A : Ks) (w0 : World) : CutOk Tryd.prog ⟨Tryd.f34.ntmps, 0, A⟩ w0 (kRet Tryd.prog Tryd.f34.results.toList Gr06_areas.rk) (bodyOf Tryd.f34) 14926 (cut Tryd.prog Gr06_areas.fr14926 Gr06_areas.ou14926 (Gr06_areas.T14926 NN)) :=
  loop_ok Gr06_areas.hρ (Λ := Gr06_areas.Λ2) (cuts_cons (Gr06_areas.c26 A w0) (cuts_cons (Gr06_areas.c13470 A w0) (cuts_nil))) (by kernel_rfl) (D := 64) (b := loopOf Tryd.f34 14926) (by kernel_rfl) (by kernel_rfl) NN (fun x κ => by kernel_rfl) (fun k x κ => by kernel_rfl)
theorem Gr06_areas.c58 (A : Ks) (w0 : World) : CutOk Tryd.prog ⟨Tryd.f34.ntmps, 0, A⟩ w0 (kRet Tryd.prog Tryd.f34.results.toList Gr06_areas.rk) (bodyOf Tryd.f34) 58 (cut Tryd.prog Gr06_areas.fr58 Gr06_areas.ou58 (Gr06_areas.T58 NN)) :=
  loop_ok Gr06_areas.hρ (Λ := Gr06_areas.Λ3) (cuts_cons (Gr06_areas.c14926 A w0) (cuts_cons (Gr06_areas.c26 A w0) (cuts_cons (Gr06_areas.c13470 A w0) (cuts_nil)))) (by kernel_rfl) (D := 64) (b := loopOf Tryd.f34 58) (by kernel_rfl) (by kernel_rfl) NN (fun x κ => by kernel_rfl) (fun k x κ => by kernel_rfl)
theorem Gr06_areas.spec : Spec Tryd.prog 34 Gr06_areas.pk Gr06_areas.rk Gr06_areas.g :=
  spec_of_body (fn := Tryd.f34) (c := bodyOf Tryd.f34) (by kernel_rfl) (by kernel_rfl) (by kernel_rfl) (by kernel_rfl) (ρ := Gr06_areas.ρ) Gr06_areas.hρ (Λ := Gr06_areas.Λ) (fun A w0 => cuts_cons (Gr06_areas.c58 A w0) (cuts_cons (Gr06_areas.c14926 A w0) (cuts_cons (Gr06_areas.c26 A w0) (cuts_cons (Gr06_areas.c13470 A w0) (cuts_nil))))) (fun x => by kernel_rfl)

/-! ### 35 bluebell/bluebellref06.numbers -/
def Gr06_numbers.p4030463 (v2 : D) (v3 : D) (v40 : Int) (v93 : Bool) (κ0 : D → Option Bool) : Option Bool :=
  bif v93 then (Gr06_in.f ((v3.cell 1).int) 1 ((v2.cell 5).int)).bind fun r9 => some r9 else bif (v40 == 24) then (Gr06_in.f ((v3.cell 1).int) 1 ((v2.cell 4).int)).bind fun r10 => (bif r10 then Gr06_in.f ((v3.cell 2).int) 0 8 else some false).bind fun r11 => some (r10 && r11) else bif (v40 == 29) then (Gr06_in.f ((v3.cell 1).int) 1 ((v2.cell 5).int)).bind fun r12 => (bif r12 then Gr06_in.f ((v3.cell 2).int) 0 1000 else some false).bind fun r13 => some (r12 && r13) else bif (v40 == 30) then (Gr06_in.f ((v3.cell 2).int) 1 ((v2.cell 5).int)).bind fun r14 => some r14 else κ0 v3
def Gr06_numbers.p15743 (v2 : D) (v3 : D) (v40 : Int) (v60 : Bool) (κ0 : D → Option Bool) : Option Bool :=
  bif v60 then (Gr06_in.f ((v3.cell 1).int) 0 (IntKind.i64.wrap ((((v2.cell 1).list).length : Int) - 1))).bind fun r6 => some r6 else bif (v40 == 11) then (Gr06_in.f ((v3.cell 1).int) 1 ((v2.cell 4).int)).bind fun r7 => some r7 else bif (v40 == 16) then (Gr06_in.f ((v3.cell 1).int) 1 17).bind fun r8 => some r8 else bif (v40 == 17) then some ((((v3.cell 1).int) == 18) || (((v3.cell 1).int) == 19)) else bif (v40 == 19) then Gr06_numbers.p4030463 v2 v3 v40 (v40 == 19) (fun y15 => κ0 y15) else bif (v40 == 20) then Gr06_numbers.p4030463 v2 v3 v40 (v40 == 20) (fun y16 => κ0 y16) else bif (v40 == 21) then Gr06_numbers.p4030463 v2 v3 v40 (v40 == 21) (fun y17 => κ0 y17) else bif (v40 == 22) then Gr06_numbers.p4030463 v2 v3 v40 (v40 == 22) (fun y18 => κ0 y18) else Gr06_numbers.p4030463 v2 v3 v40 (v40 == 27) (fun y19 => κ0 y19)
def Gr06_numbers.p3935 (v2 : D) (v3 : D) (v40 : Int) (v53 : Bool) (κ0 : D → Option Bool) : Option Bool :=
  bif v53 then (Gr06_in.f ((v3.cell 1).int) 0 199).bind fun r5 => some r5 else bif (v40 == 8) then Gr06_numbers.p15743 v2 v3 v40 (v40 == 8) (fun y20 => κ0 y20) else bif (v40 == 9) then Gr06_numbers.p15743 v2 v3 v40 (v40 == 9) (fun y21 => κ0 y21) else Gr06_numbers.p15743 v2 v3 v40 (v40 == 10) (fun y22 => κ0 y22)
def Gr06_numbers.p983 (v2 : D) (v3 : D) (v40 : Int) (v43 : Bool) (κ0 : D → Option Bool) : Option Bool :=
  bif v43 then (Gr06_in.f ((v3.cell 1).int) 0 4000).bind fun r4 => some r4 else bif (v40 == 5) then Gr06_numbers.p3935 v2 v3 v40 (v40 == 5) (fun y23 => κ0 y23) else bif (v40 == 6) then Gr06_numbers.p3935 v2 v3 v40 (v40 == 6) (fun y24 => κ0 y24) else Gr06_numbers.p3935 v2 v3 v40 (v40 == 7) (fun y25 => κ0 y25)
def Gr06_numbers.p31 (v3 : D) : Option Bool :=
  some (((v3.cell 1).int) == 0)
def Gr06_numbers.f (a0 : D) (a1 : D) : Option Bool :=
  (Gr06_in.f ((a1.cell 0).int) 1 30).bind fun r1 => (bif (!(!r1)) then Gr06_in.f ((a1.cell 1).int) (-2147483648) 2147483647 else some false).bind fun r2 => (bif (!((!r1) || (!r2))) then Gr06_in.f ((a1.cell 2).int) (-2147483648) 2147483647 else some false).bind fun r3 => bif (((!r1) || (!r2)) || (!r3)) then some false else bif ((((((a1.cell 0).int) != 24) && (((a1.cell 0).int) != 29)) && (((a1.cell 0).int) != 30)) && (((a1.cell 2).int) != 0)) then some false else bif (((a1.cell 0).int) == 1) then some true else bif (((a1.cell 0).int) == 2) then Gr06_numbers.p983 a0 a1 ((a1.cell 0).int) (((a1.cell 0).int) == 2) (fun y26 => Gr06_numbers.p31 y26) else bif (((a1.cell 0).int) == 3) then Gr06_numbers.p983 a0 a1 ((a1.cell 0).int) (((a1.cell 0).int) == 3) (fun y27 => Gr06_numbers.p31 y27) else bif (((a1.cell 0).int) == 4) then Gr06_numbers.p983 a0 a1 ((a1.cell 0).int) (((a1.cell 0).int) == 4) (fun y28 => Gr06_numbers.p31 y28) else bif (((a1.cell 0).int) == 23) then Gr06_numbers.p983 a0 a1 ((a1.cell 0).int) (((a1.cell 0).int) == 23) (fun y29 => Gr06_numbers.p31 y29) else bif (((a1.cell 0).int) == 18) then Gr06_numbers.p983 a0 a1 ((a1.cell 0).int) (((a1.cell 0).int) == 18) (fun y30 => Gr06_numbers.p31 y30) else Gr06_numbers.p983 a0 a1 ((a1.cell 0).int) (((a1.cell 0).int) == 28) (fun y31 => Gr06_numbers.p31 y31)
def Gr06_numbers.pk : List FK := [.st 26, .st 34]
def Gr06_numbers.rk : List FK := [.bool]
def Gr06_numbers.g : Tp Gr06_numbers.pk → Option (Tp Gr06_numbers.rk) := fun x => Gr06_numbers.f x.1 x.2
def Gr06_numbers.ρ : List (Entry (Tp Gr06_numbers.rk)) := [entry _ Tryd.prog 53 Gr06_in.pk Gr06_in.rk Gr06_in.g]
theorem Gr06_numbers.hρ : ∀ e ∈ Gr06_numbers.ρ, EntryOk Tryd.prog e :=
  ents_cons (ent (fn := Tryd.f53) Gr06_in.spec (by kernel_rfl) (by kernel_rfl) (by kernel_rfl) (by kernel_rfl)) (ents_nil)
def Gr06_numbers.fr4030463 : Fr := [(2, .bx (.st 26)), (3, .bx (.st 34)), (40, .int .i64), (93, .bool)]
def Gr06_numbers.ou4030463 : Outs := [(0, [(3, .bx (.st 34))])]
def Gr06_numbers.T4030463 (x : Gr06_numbers.fr4030463.T) (κ : Kp (Tp Gr06_numbers.rk) Gr06_numbers.ou4030463) : Option (Tp Gr06_numbers.rk) := Gr06_numbers.p4030463 x.1 x.2.1 x.2.2.1 x.2.2.2 κ.1
def Gr06_numbers.fr15743 : Fr := [(2, .bx (.st 26)), (3, .bx (.st 34)), (40, .int .i64), (60, .bool)]
def Gr06_numbers.ou15743 : Outs := [(0, [(3, .bx (.st 34))])]
def Gr06_numbers.T15743 (x : Gr06_numbers.fr15743.T) (κ : Kp (Tp Gr06_numbers.rk) Gr06_numbers.ou15743) : Option (Tp Gr06_numbers.rk) := Gr06_numbers.p15743 x.1 x.2.1 x.2.2.1 x.2.2.2 κ.1
def Gr06_numbers.fr3935 : Fr := [(2, .bx (.st 26)), (3, .bx (.st 34)), (40, .int .i64), (53, .bool)]
def Gr06_numbers.ou3935 : Outs := [(0, [(3, .bx (.st 34))])]
def Gr06_numbers.T3935 (x : Gr06_numbers.fr3935.T) (κ : Kp (Tp Gr06_numbers.rk) Gr06_numbers.ou3935) : Option (Tp Gr06_numbers.rk) := Gr06_numbers.p3935 x.1 x.2.1 x.2.2.1 x.2.2.2 κ.1
def Gr06_numbers.fr983 : Fr := [(2, .bx (.st 26)), (3, .bx (.st 34)), (40, .int .i64), (43, .bool)]
def Gr06_numbers.ou983 : Outs := [(0, [(3, .bx (.st 34))])]
def Gr06_numbers.T983 (x : Gr06_numbers.fr983.T) (κ : Kp (Tp Gr06_numbers.rk) Gr06_numbers.ou983) : Option (Tp Gr06_numbers.rk) := Gr06_numbers.p983 x.1 x.2.1 x.2.2.1 x.2.2.2 κ.1
def Gr06_numbers.fr31 : Fr := [(3, .bx (.st 34))]
def Gr06_numbers.ou31 : Outs := []
def Gr06_numbers.T31 (x : Gr06_numbers.fr31.T) (κ : Kp (Tp Gr06_numbers.rk) Gr06_numbers.ou31) : Option (Tp Gr06_numbers.rk) := Gr06_numbers.p31 x
def Gr06_numbers.Λ0 : Cuts (Tp Gr06_numbers.rk) := cutsOf []
def Gr06_numbers.Λ1 : Cuts (Tp Gr06_numbers.rk) := cutsOf [(4030463, cut Tryd.prog Gr06_numbers.fr4030463 Gr06_numbers.ou4030463 (Gr06_numbers.T4030463))]
def Gr06_numbers.Λ2 : Cuts (Tp Gr06_numbers.rk) := cutsOf [(15743, cut Tryd.prog Gr06_numbers.fr15743 Gr06_numbers.ou15743 (Gr06_numbers.T15743)), (4030463, cut Tryd.prog Gr06_numbers.fr4030463 Gr06_numbers.ou4030463 (Gr06_numbers.T4030463))]
def Gr06_numbers.Λ3 : Cuts (Tp Gr06_numbers.rk) := cutsOf [(3935, cut Tryd.prog Gr06_numbers.fr3935 Gr06_numbers.ou3935 (Gr06_numbers.T3935)), (15743, cut Tryd.prog Gr06_numbers.fr15743 Gr06_numbers.ou15743 (Gr06_numbers.T15743)), (4030463, cut Tryd.prog Gr06_numbers.fr4030463 Gr06_numbers.ou4030463 (Gr06_numbers.T4030463))]
def Gr06_numbers.Λ4 : Cuts (Tp Gr06_numbers.rk) := cutsOf [(983, cut Tryd.prog Gr06_numbers.fr983 Gr06_numbers.ou983 (Gr06_numbers.T983)), (3935, cut Tryd.prog Gr06_numbers.fr3935 Gr06_numbers.ou3935 (Gr06_numbers.T3935)), (15743, cut Tryd.prog Gr06_numbers.fr15743 Gr06_numbers.ou15743 (Gr06_numbers.T15743)), (4030463, cut Tryd.prog Gr06_numbers.fr4030463 Gr06_numbers.ou4030463 (Gr06_numbers.T4030463))]
def Gr06_numbers.Λ : Cuts (Tp Gr06_numbers.rk) := cutsOf [(31, cut Tryd.prog Gr06_numbers.fr31 Gr06_numbers.ou31 (Gr06_numbers.T31)), (983, cut Tryd.prog Gr06_numbers.fr983 Gr06_numbers.ou983 (Gr06_numbers.T983)), (3935, cut Tryd.prog Gr06_numbers.fr3935 Gr06_numbers.ou3935 (Gr06_numbers.T3935)), (15743, cut Tryd.prog Gr06_numbers.fr15743 Gr06_numbers.ou15743 (Gr06_numbers.T15743)), (4030463, cut Tryd.prog Gr06_numbers.fr4030463 Gr06_numbers.ou4030463 (Gr06_numbers.T4030463))]
theorem Gr06_numbers.c4030463 (A : Ks) (w0 : World) : CutOk Tryd.prog ⟨Tryd.f35.ntmps, 0, A⟩ w0 (kRet Tryd.prog Tryd.f35.results.toList Gr06_numbers.rk) (bodyOf Tryd.f35) 4030463 (cut Tryd.prog Gr06_numbers.fr4030463 Gr06_numbers.ou4030463 (Gr06_numbers.T4030463)) :=
  cut_ok Gr06_numbers.hρ (Λ := Gr06_numbers.Λ0) (cuts_nil) (by kernel_rfl) (by kernel_rfl) (D := 64) (c := nodeOf Tryd.f35 4030463) (by kernel_rfl) (by kernel_rfl) (fun x κ => by kernel_rfl)
theorem Gr06_numbers.c15743 (A : Ks) (w0 : World) : CutOk Tryd.prog ⟨Tryd.f35.ntmps, 0, A⟩ w0 (kRet Tryd.prog Tryd.f35.results.toList Gr06_numbers.rk) (bodyOf Tryd.f35) 15743 (cut Tryd.prog Gr06_numbers.fr15743 Gr06_numbers.ou15743 (Gr06_numbers.T15743)) :=
  cut_ok Gr06_numbers.hρ (Λ := Gr06_numbers.Λ1) (cuts_cons (Gr06_numbers.c4030463 A w0) (cuts_nil)) (by kernel_rfl) (by kernel_rfl) (D := 64) (c := nodeOf Tryd.f35 15743) (by kernel_rfl) (by kernel_rfl) (fun x κ => by kernel_rfl)
theorem Gr06_numbers.c3935 (A : Ks) (w0 : World) : CutOk Tryd.prog ⟨Tryd.f35.ntmps, 0, A⟩ w0 (kRet Tryd.prog Tryd.f35.results.toList Gr06_numbers.rk) (bodyOf Tryd.f35) 3935 (cut Tryd.prog Gr06_numbers.fr3935 Gr06_numbers.ou3935 (Gr06_numbers.T3935)) :=
  cut_ok Gr06_numbers.hρ (Λ := Gr06_numbers.Λ2) (cuts_cons (Gr06_numbers.c15743 A w0) (cuts_cons (Gr06_numbers.c4030463 A w0) (cuts_nil))) (by kernel_rfl) (by kernel_rfl) (D := 64) (c := nodeOf Tryd.f35 3935) (by kernel_rfl) (by kernel_rfl) (fun x κ => by kernel_rfl)
theorem Gr06_numbers.c983 (A : Ks) (w0 : World) : CutOk Tryd.prog ⟨Tryd.f35.ntmps, 0, A⟩ w0 (kRet Tryd.prog Tryd.f35.results.toList Gr06_numbers.rk) (bodyOf Tryd.f35) 983 (cut Tryd.prog Gr06_numbers.fr983 Gr06_numbers.ou983 (Gr06_numbers.T983)) :=
  cut_ok Gr06_numbers.hρ (Λ := Gr06_numbers.Λ3) (cuts_cons (Gr06_numbers.c3935 A w0) (cuts_cons (Gr06_numbers.c15743 A w0) (cuts_cons (Gr06_numbers.c4030463 A w0) (cuts_nil)))) (by kernel_rfl) (by kernel_rfl) (D := 64) (c := nodeOf Tryd.f35 983) (by kernel_rfl) (by kernel_rfl) (fun x κ => by kernel_rfl)
theorem Gr06_numbers.c31 (A : Ks) (w0 : World) : CutOk Tryd.prog ⟨Tryd.f35.ntmps, 0, A⟩ w0 (kRet Tryd.prog Tryd.f35.results.toList Gr06_numbers.rk) (bodyOf Tryd.f35) 31 (cut Tryd.prog Gr06_numbers.fr31 Gr06_numbers.ou31 (Gr06_numbers.T31)) :=
  cut_ok Gr06_numbers.hρ (Λ := Gr06_numbers.Λ4) (cuts_cons (Gr06_numbers.c983 A w0) (cuts_cons (Gr06_numbers.c3935 A w0) (cuts_cons (Gr06_numbers.c15743 A w0) (cuts_cons (Gr06_numbers.c4030463 A w0) (cuts_nil))))) (by kernel_rfl) (by kernel_rfl) (D := 64) (c := nodeOf Tryd.f35 31) (by kernel_rfl) (by kernel_rfl) (fun x κ => by kernel_rfl)
theorem Gr06_numbers.spec : Spec Tryd.prog 35 Gr06_numbers.pk Gr06_numbers.rk Gr06_numbers.g :=
  spec_of_body (fn := Tryd.f35) (c := bodyOf Tryd.f35) (by kernel_rfl) (by kernel_rfl) (by kernel_rfl) (by kernel_rfl) (ρ := Gr06_numbers.ρ) Gr06_numbers.hρ (Λ := Gr06_numbers.Λ) (fun A w0 => cuts_cons (Gr06_numbers.c31 A w0) (cuts_cons (Gr06_numbers.c983 A w0) (cuts_cons (Gr06_numbers.c3935 A w0) (cuts_cons (Gr06_numbers.c15743 A w0) (cuts_cons (Gr06_numbers.c4030463 A w0) (cuts_nil)))))) (fun x => by kernel_rfl)

/-! ### 54 bluebell/bluebellref06.GoesOn -/
def Gr06_GoesOn.f (a0 : D) : Option Bool :=
  some ((((((((a0.cell 0).int) != 20) && (((a0.cell 0).int) != 25)) && (((a0.cell 0).int) != 26)) && (((a0.cell 0).int) != 27)) && (((a0.cell 0).int) != 29)) && (((a0.cell 0).int) != 30))
def Gr06_GoesOn.pk : List FK := [.st 34]
def Gr06_GoesOn.rk : List FK := [.bool]
def Gr06_GoesOn.g : Tp Gr06_GoesOn.pk → Option (Tp Gr06_GoesOn.rk) := fun x => Gr06_GoesOn.f x
def Gr06_GoesOn.ρ : List (Entry (Tp Gr06_GoesOn.rk)) := []
theorem Gr06_GoesOn.hρ : ∀ e ∈ Gr06_GoesOn.ρ, EntryOk Tryd.prog e :=
  ents_nil
def Gr06_GoesOn.Λ : Cuts (Tp Gr06_GoesOn.rk) := cutsOf []
theorem Gr06_GoesOn.spec : Spec Tryd.prog 54 Gr06_GoesOn.pk Gr06_GoesOn.rk Gr06_GoesOn.g :=
  spec_of_body (fn := Tryd.f54) (c := bodyOf Tryd.f54) (by kernel_rfl) (by kernel_rfl) (by kernel_rfl) (by kernel_rfl) (ρ := Gr06_GoesOn.ρ) Gr06_GoesOn.hρ (Λ := Gr06_GoesOn.Λ) (fun A w0 => cuts_nil) (fun x => by kernel_rfl)

/-! ### 36 bluebell/bluebellref06.order -/
def Gr06_order.p29855 (v1 : D) (v3 : Int) (v4 : Int) (v5 : Int) (v6 : Int) (v7 : D) (v8 : Bool) (κ0 : (D × Int × Int × Int × Int) → Option Bool) : Option Bool :=
  (Gr06_GoesOn.f v7).bind fun r1 => gd ((!(r1 && (!v8))) || (inB (IntKind.i64.wrap (v6 + 1)) ((v1.cell 2).list).length)) (bif ((r1 && (v8 || ((((rd ((v1.cell 2).list) (IntKind.i64.wrap (v6 + 1)).toNat).cell 0).int) == 24))) || ((v6 == 0) && (((v7.cell 0).int) != 24))) then some false else κ0 (v1, v3, v4, v5, v6))
def Gr06_order.p7463 (v1 : D) (v3 : Int) (v4 : Int) (v5 : Int) (v6 : Int) (v7 : D) (κ0 : (D × Int × Int × Int × Int) → Option Bool) : Option Bool :=
  bif (((v7.cell 0).int) == 24) then bif (((v7.cell 1).int) != (IntKind.i64.wrap (v3 + 1))) then some false else Gr06_order.p29855 v1 (IntKind.i64.wrap (v3 + 1)) v4 v5 v6 v7 (decide ((IntKind.i64.wrap (v6 + 1)) ≥ (((v1.cell 2).list).length : Int))) (fun y2 => κ0 (y2.1, y2.2.1, y2.2.2.1, y2.2.2.2.1, y2.2.2.2.2)) else bif (((v7.cell 0).int) == 29) then Gr06_order.p29855 v1 v3 v4 ((v7.cell 2).int) v6 v7 (decide ((IntKind.i64.wrap (v6 + 1)) ≥ (((v1.cell 2).list).length : Int))) (fun y3 => κ0 (y3.1, y3.2.1, y3.2.2.1, y3.2.2.2.1, y3.2.2.2.2)) else bif (((v7.cell 0).int) == 19) then gd ((!(!(decide ((IntKind.i64.wrap (v6 + 1)) ≥ (((v1.cell 2).list).length : Int))))) || (inB (IntKind.i64.wrap (v6 + 1)) ((v1.cell 2).list).length)) (gd ((!((!(decide ((IntKind.i64.wrap (v6 + 1)) ≥ (((v1.cell 2).list).length : Int)))) && ((((rd ((v1.cell 2).list) (IntKind.i64.wrap (v6 + 1)).toNat).cell 0).int) != 18))) || (inB (IntKind.i64.wrap (v6 + 1)) ((v1.cell 2).list).length)) (gd ((!((!(decide ((IntKind.i64.wrap (v6 + 1)) ≥ (((v1.cell 2).list).length : Int)))) && (((((rd ((v1.cell 2).list) (IntKind.i64.wrap (v6 + 1)).toNat).cell 0).int) != 18) && ((((rd ((v1.cell 2).list) (IntKind.i64.wrap (v6 + 1)).toNat).cell 0).int) != 28)))) || (inB (IntKind.i64.wrap (v6 + 1)) ((v1.cell 2).list).length)) (bif ((decide ((IntKind.i64.wrap (v6 + 1)) ≥ (((v1.cell 2).list).length : Int))) || ((((((rd ((v1.cell 2).list) (IntKind.i64.wrap (v6 + 1)).toNat).cell 0).int) != 18) && ((((rd ((v1.cell 2).list) (IntKind.i64.wrap (v6 + 1)).toNat).cell 0).int) != 28)) && ((((rd ((v1.cell 2).list) (IntKind.i64.wrap (v6 + 1)).toNat).cell 0).int) != 19))) then some false else Gr06_order.p29855 v1 v3 (if ((v7.cell 1).int) > v4 then ((v7.cell 1).int) else v4) v5 v6 v7 (decide ((IntKind.i64.wrap (v6 + 1)) ≥ (((v1.cell 2).list).length : Int))) (fun y4 => κ0 (y4.1, y4.2.1, y4.2.2.1, y4.2.2.2.1, y4.2.2.2.2))))) else Gr06_order.p29855 v1 v3 v4 v5 v6 v7 (decide ((IntKind.i64.wrap (v6 + 1)) ≥ (((v1.cell 2).list).length : Int))) (fun y5 => κ0 (y5.1, y5.2.1, y5.2.2.1, y5.2.2.2.1, y5.2.2.2.2))
def Gr06_order.l58 : Nat → D → Int → Int → Int → Int → ((D × Int × Int × Int) → Option Bool) → Option Bool
  | 0, _, _, _, _, _, _ => none
  | k + 1, v1, v3, v4, v5, v6, κ1 =>
    bif decide (v6 < (((v1.cell 2).list).length : Int)) then gd (inB v6 ((v1.cell 2).list).length) (bif (!((decide (v5 > 0)) == ((((rd ((v1.cell 2).list) v6.toNat).cell 0).int) == 30))) then some false else bif decide (v5 > 0) then Gr06_order.p7463 v1 v3 v4 (IntKind.i64.wrap (v5 - 1)) v6 (rd ((v1.cell 2).list) v6.toNat) (fun y6 => Gr06_order.l58 k y6.1 y6.2.1 y6.2.2.1 y6.2.2.2.1 (IntKind.i64.wrap (y6.2.2.2.2 + 1)) κ1) else Gr06_order.p7463 v1 v3 v4 v5 v6 (rd ((v1.cell 2).list) v6.toNat) (fun y7 => Gr06_order.l58 k y7.1 y7.2.1 y7.2.2.1 y7.2.2.2.1 (IntKind.i64.wrap (y7.2.2.2.2 + 1)) κ1)) else κ1 (v1, v3, v4, v5)
def Gr06_order.f (a0 : D) : Option Bool :=
  Gr06_order.l58 NN a0 0 0 0 0 (fun y8 => some (((y8.2.2.2 == 0) && (y8.2.1 == ((y8.1.cell 4).int))) && (y8.2.2.1 == ((y8.1.cell 5).int))))
def Gr06_order.pk : List FK := [.st 26]
def Gr06_order.rk : List FK := [.bool]
def Gr06_order.g : Tp Gr06_order.pk → Option (Tp Gr06_order.rk) := fun x => Gr06_order.f x
def Gr06_order.ρ : List (Entry (Tp Gr06_order.rk)) := [entry _ Tryd.prog 54 Gr06_GoesOn.pk Gr06_GoesOn.rk Gr06_GoesOn.g]
theorem Gr06_order.hρ : ∀ e ∈ Gr06_order.ρ, EntryOk Tryd.prog e :=
  ents_cons (ent (fn := Tryd.f54) Gr06_GoesOn.spec (by kernel_rfl) (by kernel_rfl) (by kernel_rfl) (by kernel_rfl)) (ents_nil)
def Gr06_order.fr29855 : Fr := [(1, .bx (.st 26)), (3, .int .i64), (4, .int .i64), (5, .int .i64), (6, .int .i64), (7, .bx (.st 34)), (8, .bool)]
def Gr06_order.ou29855 : Outs := [(0, [(1, .bx (.st 26)), (3, .int .i64), (4, .int .i64), (5, .int .i64), (6, .int .i64)])]
def Gr06_order.T29855 (x : Gr06_order.fr29855.T) (κ : Kp (Tp Gr06_order.rk) Gr06_order.ou29855) : Option (Tp Gr06_order.rk) := Gr06_order.p29855 x.1 x.2.1 x.2.2.1 x.2.2.2.1 x.2.2.2.2.1 x.2.2.2.2.2.1 x.2.2.2.2.2.2 κ.1
def Gr06_order.fr7463 : Fr := [(1, .bx (.st 26)), (3, .int .i64), (4, .int .i64), (5, .int .i64), (6, .int .i64), (7, .bx (.st 34))]
def Gr06_order.ou7463 : Outs := [(0, [(1, .bx (.st 26)), (3, .int .i64), (4, .int .i64), (5, .int .i64), (6, .int .i64)])]
def Gr06_order.T7463 (x : Gr06_order.fr7463.T) (κ : Kp (Tp Gr06_order.rk) Gr06_order.ou7463) : Option (Tp Gr06_order.rk) := Gr06_order.p7463 x.1 x.2.1 x.2.2.1 x.2.2.2.1 x.2.2.2.2.1 x.2.2.2.2.2 κ.1
def Gr06_order.fr58 : Fr := [(1, .bx (.st 26)), (3, .int .i64), (4, .int .i64), (5, .int .i64), (6, .int .i64)]
def Gr06_order.ou58 : Outs := [(1, [(1, .bx (.st 26)), (3, .int .i64), (4, .int .i64), (5, .int .i64)])]
def Gr06_order.T58 (k : Nat) (x : Gr06_order.fr58.T) (κ : Kp (Tp Gr06_order.rk) Gr06_order.ou58) : Option (Tp Gr06_order.rk) := Gr06_order.l58 k x.1 x.2.1 x.2.2.1 x.2.2.2.1 x.2.2.2.2 κ.1
def Gr06_order.Λ0 : Cuts (Tp Gr06_order.rk) := cutsOf []
def Gr06_order.Λ1 : Cuts (Tp Gr06_order.rk) := cutsOf [(29855, cut Tryd.prog Gr06_order.fr29855 Gr06_order.ou29855 (Gr06_order.T29855))]
def Gr06_order.Λ2 : Cuts (Tp Gr06_order.rk) := cutsOf [(7463, cut Tryd.prog Gr06_order.fr7463 Gr06_order.ou7463 (Gr06_order.T7463)), (29855, cut Tryd.prog Gr06_order.fr29855 Gr06_order.ou29855 (Gr06_order.T29855))]
def Gr06_order.Λ : Cuts (Tp Gr06_order.rk) := cutsOf [(58, cut Tryd.prog Gr06_order.fr58 Gr06_order.ou58 (Gr06_order.T58 NN)), (7463, cut Tryd.prog Gr06_order.fr7463 Gr06_order.ou7463 (Gr06_order.T7463)), (29855, cut Tryd.prog Gr06_order.fr29855 Gr06_order.ou29855 (Gr06_order.T29855))]
theorem Gr06_order.c29855 (A : Ks) (w0 : World) : CutOk Tryd.prog ⟨Tryd.f36.ntmps, 0, A⟩ w0 (kRet Tryd.prog Tryd.f36.results.toList Gr06_order.rk) (bodyOf Tryd.f36) 29855 (cut Tryd.prog Gr06_order.fr29855 Gr06_order.ou29855 (Gr06_order.T29855)) :=
  cut_ok Gr06_order.hρ (Λ := Gr06_order.Λ0) (cuts_nil) (by kernel_rfl) (by kernel_rfl) (D := 64) (c := nodeOf Tryd.f36 29855) (by kernel_rfl) (by kernel_rfl) (fun x κ => by kernel_rfl)
theorem Gr06_order.c7463 (A : Ks) (w0 : World) : CutOk Tryd.prog ⟨Tryd.f36.ntmps, 0, A⟩ w0 (kRet Tryd.prog Tryd.f36.results.toList Gr06_order.rk) (bodyOf Tryd.f36) 7463 (cut Tryd.prog Gr06_order.fr7463 Gr06_order.ou7463 (Gr06_order.T7463)) :=
  cut_ok Gr06_order.hρ (Λ := Gr06_order.Λ1) (cuts_cons (Gr06_order.c29855 A w0) (cuts_nil)) (by kernel_rfl) (by kernel_rfl) (D := 64) (c := nodeOf Tryd.f36 7463) (by kernel_rfl) (by kernel_rfl) (fun x κ => by kernel_rfl)
theorem Gr06_order.c58 (A : Ks) (w0 : World) : CutOk Tryd.prog ⟨Tryd.f36.ntmps, 0, A⟩ w0 (kRet Tryd.prog Tryd.f36.results.toList Gr06_order.rk) (bodyOf Tryd.f36) 58 (cut Tryd.prog Gr06_order.fr58 Gr06_order.ou58 (Gr06_order.T58 NN)) :=
  loop_ok Gr06_order.hρ (Λ := Gr06_order.Λ2) (cuts_cons (Gr06_order.c7463 A w0) (cuts_cons (Gr06_order.c29855 A w0) (cuts_nil))) (by kernel_rfl) (D := 64) (b := loopOf Tryd.f36 58) (by kernel_rfl) (by kernel_rfl) NN (fun x κ => by kernel_rfl) (fun k x κ => by kernel_rfl)
theorem Gr06_order.spec : Spec Tryd.prog 36 Gr06_order.pk Gr06_order.rk Gr06_order.g :=
  spec_of_body (fn := Tryd.f36) (c := bodyOf Tryd.f36) (by kernel_rfl) (by kernel_rfl) (by kernel_rfl) (by kernel_rfl) (ρ := Gr06_order.ρ) Gr06_order.hρ (Λ := Gr06_order.Λ) (fun A w0 => cuts_cons (Gr06_order.c58 A w0) (cuts_cons (Gr06_order.c7463 A w0) (cuts_cons (Gr06_order.c29855 A w0) (cuts_nil)))) (fun x => by kernel_rfl)

/-! ### 55 bluebell/bluebellref06.Label -/
def Gr06_Label.p53 (v1 : D) (v4 : Int) (v5 : Bool) (κ0 : Unit → Option Int) : Option Int :=
  bif v5 then some ((v1.cell 1).int) else bif (v4 == 30) then some ((v1.cell 2).int) else κ0 ()
def Gr06_Label.f (a0 : D) : Option Int :=
  bif (((a0.cell 0).int) == 20) then Gr06_Label.p53 a0 ((a0.cell 0).int) (((a0.cell 0).int) == 20) (fun y1 => some 0) else bif (((a0.cell 0).int) == 21) then Gr06_Label.p53 a0 ((a0.cell 0).int) (((a0.cell 0).int) == 21) (fun y2 => some 0) else bif (((a0.cell 0).int) == 22) then Gr06_Label.p53 a0 ((a0.cell 0).int) (((a0.cell 0).int) == 22) (fun y3 => some 0) else bif (((a0.cell 0).int) == 27) then Gr06_Label.p53 a0 ((a0.cell 0).int) (((a0.cell 0).int) == 27) (fun y4 => some 0) else Gr06_Label.p53 a0 ((a0.cell 0).int) (((a0.cell 0).int) == 29) (fun y5 => some 0)
def Gr06_Label.pk : List FK := [.st 34]
def Gr06_Label.rk : List FK := [.int .i64]
def Gr06_Label.g : Tp Gr06_Label.pk → Option (Tp Gr06_Label.rk) := fun x => Gr06_Label.f x
def Gr06_Label.ρ : List (Entry (Tp Gr06_Label.rk)) := []
theorem Gr06_Label.hρ : ∀ e ∈ Gr06_Label.ρ, EntryOk Tryd.prog e :=
  ents_nil
def Gr06_Label.fr53 : Fr := [(1, .bx (.st 34)), (4, .int .i64), (5, .bool)]
def Gr06_Label.ou53 : Outs := [(0, [])]
def Gr06_Label.T53 (x : Gr06_Label.fr53.T) (κ : Kp (Tp Gr06_Label.rk) Gr06_Label.ou53) : Option (Tp Gr06_Label.rk) := Gr06_Label.p53 x.1 x.2.1 x.2.2 κ.1
def Gr06_Label.Λ0 : Cuts (Tp Gr06_Label.rk) := cutsOf []
def Gr06_Label.Λ : Cuts (Tp Gr06_Label.rk) := cutsOf [(53, cut Tryd.prog Gr06_Label.fr53 Gr06_Label.ou53 (Gr06_Label.T53))]
theorem Gr06_Label.c53 (A : Ks) (w0 : World) : CutOk Tryd.prog ⟨Tryd.f55.ntmps, 0, A⟩ w0 (kRet Tryd.prog Tryd.f55.results.toList Gr06_Label.rk) (bodyOf Tryd.f55) 53 (cut Tryd.prog Gr06_Label.fr53 Gr06_Label.ou53 (Gr06_Label.T53)) :=
  cut_ok Gr06_Label.hρ (Λ := Gr06_Label.Λ0) (cuts_nil) (by kernel_rfl) (by kernel_rfl) (D := 64) (c := nodeOf Tryd.f55 53) (by kernel_rfl) (by kernel_rfl) (fun x κ => by kernel_rfl)
theorem Gr06_Label.spec : Spec Tryd.prog 55 Gr06_Label.pk Gr06_Label.rk Gr06_Label.g :=
  spec_of_body (fn := Tryd.f55) (c := bodyOf Tryd.f55) (by kernel_rfl) (by kernel_rfl) (by kernel_rfl) (by kernel_rfl) (ρ := Gr06_Label.ρ) Gr06_Label.hρ (Λ := Gr06_Label.Λ) (fun A w0 => cuts_cons (Gr06_Label.c53 A w0) (cuts_nil)) (fun x => by kernel_rfl)

/-! ### 37 bluebell/bluebellref06.placed -/
def Gr06_placed.l58 : Nat → D → D → ((List D × List D × Unit)) → Int → ((D × D × (List D × List D × Unit)) → Option (D × Bool)) → Option (D × Bool)
  | 0, _, _, _, _, _ => none
  | k + 1, v1, v2, v4, v5, κ1 =>
    bif decide (v5 ≤ ((v1.cell 5).int)) then gd (inB v5 v4.1.length) (gd (Nat.blt v5.toNat v4.1.length) (Gr06_placed.l58 k v1 v2 ((v4.1.set v5.toNat (.i (-1))), v4.2.1, ()) (IntKind.i64.wrap (v5 + 1)) κ1)) else κ1 (v1, v2, (v4.1, v4.2.1, ()))
def Gr06_placed.p8009 (v1 : D) (v2 : D) (v4 : (List D × List D × Unit)) (v6 : Int) (v7 : Int) (κ0 : (D × D × (List D × List D × Unit) × Int × Int) → Option (D × Bool)) : Option (D × Bool) :=
  gd (inB v7 v4.2.1.length) (gd (Nat.blt v7.toNat v4.2.1.length) (gd (inB v7 ((v1.cell 2).list).length) (bif ((((rd ((v1.cell 2).list) v7.toNat).cell 0).int) == 19) then gd (inB v7 ((v1.cell 2).list).length) (gd (inB (((rd ((v1.cell 2).list) v7.toNat).cell 1).int) v4.1.length) (gd (Nat.blt (((rd ((v1.cell 2).list) v7.toNat).cell 1).int).toNat v4.1.length) (bif decide (((rd v4.1 (((rd ((v1.cell 2).list) v7.toNat).cell 1).int).toNat).int) ≥ 0) then some (.r [.l v4.1, .l (v4.2.1.set v7.toNat (.i v6))], false) else gd (inB v7 ((v1.cell 2).list).length) (gd (inB (((rd ((v1.cell 2).list) v7.toNat).cell 1).int) v4.1.length) (gd (Nat.blt (((rd ((v1.cell 2).list) v7.toNat).cell 1).int).toNat v4.1.length) (κ0 (v1, v2, ((v4.1.set (((rd ((v1.cell 2).list) v7.toNat).cell 1).int).toNat (.i v7)), (v4.2.1.set v7.toNat (.i v6)), ()), v6, v7))))))) else κ0 (v1, v2, (v4.1, (v4.2.1.set v7.toNat (.i v6)), ()), v6, v7))))
def Gr06_placed.l250 : Nat → D → D → ((List D × List D × Unit)) → Int → Int → ((D × D × (List D × List D × Unit)) → Option (D × Bool)) → Option (D × Bool)
  | 0, _, _, _, _, _, _ => none
  | k + 1, v1, v2, v4, v6, v7, κ3 =>
    bif decide (v7 < (((v1.cell 2).list).length : Int)) then gd (inB v7 ((v1.cell 2).list).length) (bif ((((rd ((v1.cell 2).list) v7.toNat).cell 0).int) == 24) then Gr06_placed.p8009 v1 v2 (v4.1, v4.2.1, ()) (IntKind.i64.wrap (v6 + 1)) v7 (fun y2 => Gr06_placed.l250 k y2.1 y2.2.1 (y2.2.2.1.1, y2.2.2.1.2.1, ()) y2.2.2.2.1 (IntKind.i64.wrap (y2.2.2.2.2 + 1)) κ3) else Gr06_placed.p8009 v1 v2 (v4.1, v4.2.1, ()) v6 v7 (fun y3 => Gr06_placed.l250 k y3.1 y3.2.1 (y3.2.2.1.1, y3.2.2.1.2.1, ()) y3.2.2.2.1 (IntKind.i64.wrap (y3.2.2.2.2 + 1)) κ3)) else κ3 (v1, v2, (v4.1, v4.2.1, ()))
def Gr06_placed.l506 : Nat → D → D → ((List D × List D × Unit)) → Int → ((D × (List D × List D × Unit)) → Option (D × Bool)) → Option (D × Bool)
  | 0, _, _, _, _, _ => none
  | k + 1, v1, v2, v4, v8, κ5 =>
    bif decide (v8 < (((v1.cell 2).list).length : Int)) then gd (inB v8 ((v1.cell 2).list).length) ((Gr06_Label.f (rd ((v1.cell 2).list) v8.toNat)).bind fun r5 => gd ((!(decide (r5 > 0))) || (inB r5 v4.1.length)) (gd ((!(decide (r5 > 0))) || (Nat.blt r5.toNat v4.1.length)) (gd ((!((decide (r5 > 0)) && (!(decide (((rd v4.1 r5.toNat).int) < 0))))) || (inB r5 v4.1.length)) (gd ((!((decide (r5 > 0)) && (!(decide (((rd v4.1 r5.toNat).int) < 0))))) || (Nat.blt r5.toNat v4.1.length)) (gd ((!((decide (r5 > 0)) && (!(decide (((rd v4.1 r5.toNat).int) < 0))))) || (inB ((rd v4.1 r5.toNat).int) v4.2.1.length)) (gd ((!((decide (r5 > 0)) && (!(decide (((rd v4.1 r5.toNat).int) < 0))))) || (Nat.blt ((rd v4.1 r5.toNat).int).toNat v4.2.1.length)) (gd ((!((decide (r5 > 0)) && (!(decide (((rd v4.1 r5.toNat).int) < 0))))) || (inB v8 v4.2.1.length)) (gd ((!((decide (r5 > 0)) && (!(decide (((rd v4.1 r5.toNat).int) < 0))))) || (Nat.blt v8.toNat v4.2.1.length)) (bif ((decide (r5 > 0)) && ((decide (((rd v4.1 r5.toNat).int) < 0)) || (((rd v4.2.1 ((rd v4.1 r5.toNat).int).toNat).int) != ((rd v4.2.1 v8.toNat).int)))) then some (.r [.l v4.1, .l v4.2.1], false) else Gr06_placed.l506 k v1 v2 (v4.1, v4.2.1, ()) (IntKind.i64.wrap (v8 + 1)) κ5))))))))) else κ5 (v2, (v4.1, v4.2.1, ()))
def Gr06_placed.f (a0 : D) : Option (D × Bool) :=
  gd (decide (0 ≤ (IntKind.i64.wrap (((a0.cell 5).int) + 1))) && decide ((IntKind.i64.wrap (((a0.cell 5).int) + 1)) ≤ (lim : Int))) (gd (decide (0 ≤ (((a0.cell 2).list).length : Int)) && decide ((((a0.cell 2).list).length : Int) ≤ (lim : Int))) (Gr06_placed.l58 NN a0 (.r [.l [], .l []]) ((List.replicate (IntKind.i64.wrap (((a0.cell 5).int) + 1)).toNat (.i 0 : D)), (List.replicate (((a0.cell 2).list).length : Int).toNat (.i 0 : D)), ()) 0 (fun y1 => Gr06_placed.l250 NN y1.1 y1.2.1 (y1.2.2.1, y1.2.2.2.1, ()) 0 0 (fun y4 => Gr06_placed.l506 NN y4.1 y4.2.1 (y4.2.2.1, y4.2.2.2.1, ()) 0 (fun y6 => some (.r [.l y6.2.1, .l y6.2.2.1], true))))))
def Gr06_placed.pk : List FK := [.st 26]
def Gr06_placed.rk : List FK := [.st 71, .bool]
def Gr06_placed.g : Tp Gr06_placed.pk → Option (Tp Gr06_placed.rk) := fun x => Gr06_placed.f x
def Gr06_placed.ρ : List (Entry (Tp Gr06_placed.rk)) := [entry _ Tryd.prog 55 Gr06_Label.pk Gr06_Label.rk Gr06_Label.g]
theorem Gr06_placed.hρ : ∀ e ∈ Gr06_placed.ρ, EntryOk Tryd.prog e :=
  ents_cons (ent (fn := Tryd.f55) Gr06_Label.spec (by kernel_rfl) (by kernel_rfl) (by kernel_rfl) (by kernel_rfl)) (ents_nil)
def Gr06_placed.fr58 : Fr := [(1, .bx (.st 26)), (2, .bx (.st 71)), (4, .bx (.cn (.own 3) (.cn (.own 3) (.ce)))), (5, .int .i64)]
def Gr06_placed.ou58 : Outs := [(1, [(1, .bx (.st 26)), (2, .bx (.st 71)), (4, .bx (.cn (.own 3) (.cn (.own 3) (.ce))))])]
def Gr06_placed.T58 (k : Nat) (x : Gr06_placed.fr58.T) (κ : Kp (Tp Gr06_placed.rk) Gr06_placed.ou58) : Option (Tp Gr06_placed.rk) := Gr06_placed.l58 k x.1 x.2.1 x.2.2.1 x.2.2.2 κ.1
def Gr06_placed.fr8009 : Fr := [(1, .bx (.st 26)), (2, .bx (.st 71)), (4, .bx (.cn (.own 3) (.cn (.own 3) (.ce)))), (6, .int .i64), (7, .int .i64)]
def Gr06_placed.ou8009 : Outs := [(0, [(1, .bx (.st 26)), (2, .bx (.st 71)), (4, .bx (.cn (.own 3) (.cn (.own 3) (.ce)))), (6, .int .i64), (7, .int .i64)])]
def Gr06_placed.T8009 (x : Gr06_placed.fr8009.T) (κ : Kp (Tp Gr06_placed.rk) Gr06_placed.ou8009) : Option (Tp Gr06_placed.rk) := Gr06_placed.p8009 x.1 x.2.1 x.2.2.1 x.2.2.2.1 x.2.2.2.2 κ.1
def Gr06_placed.fr250 : Fr := [(1, .bx (.st 26)), (2, .bx (.st 71)), (4, .bx (.cn (.own 3) (.cn (.own 3) (.ce)))), (6, .int .i64), (7, .int .i64)]
def Gr06_placed.ou250 : Outs := [(3, [(1, .bx (.st 26)), (2, .bx (.st 71)), (4, .bx (.cn (.own 3) (.cn (.own 3) (.ce))))])]
def Gr06_placed.T250 (k : Nat) (x : Gr06_placed.fr250.T) (κ : Kp (Tp Gr06_placed.rk) Gr06_placed.ou250) : Option (Tp Gr06_placed.rk) := Gr06_placed.l250 k x.1 x.2.1 x.2.2.1 x.2.2.2.1 x.2.2.2.2 κ.1
def Gr06_placed.fr506 : Fr := [(1, .bx (.st 26)), (2, .bx (.st 71)), (4, .bx (.cn (.own 3) (.cn (.own 3) (.ce)))), (8, .int .i64)]
def Gr06_placed.ou506 : Outs := [(5, [(2, .bx (.st 71)), (4, .bx (.cn (.own 3) (.cn (.own 3) (.ce))))])]
def Gr06_placed.T506 (k : Nat) (x : Gr06_placed.fr506.T) (κ : Kp (Tp Gr06_placed.rk) Gr06_placed.ou506) : Option (Tp Gr06_placed.rk) := Gr06_placed.l506 k x.1 x.2.1 x.2.2.1 x.2.2.2 κ.1
def Gr06_placed.Λ0 : Cuts (Tp Gr06_placed.rk) := cutsOf []
def Gr06_placed.Λ1 : Cuts (Tp Gr06_placed.rk) := cutsOf [(58, cut Tryd.prog Gr06_placed.fr58 Gr06_placed.ou58 (Gr06_placed.T58 NN))]
def Gr06_placed.Λ2 : Cuts (Tp Gr06_placed.rk) := cutsOf [(8009, cut Tryd.prog Gr06_placed.fr8009 Gr06_placed.ou8009 (Gr06_placed.T8009)), (58, cut Tryd.prog Gr06_placed.fr58 Gr06_placed.ou58 (Gr06_placed.T58 NN))]
def Gr06_placed.Λ3 : Cuts (Tp Gr06_placed.rk) := cutsOf [(250, cut Tryd.prog Gr06_placed.fr250 Gr06_placed.ou250 (Gr06_placed.T250 NN)), (8009, cut Tryd.prog Gr06_placed.fr8009 Gr06_placed.ou8009 (Gr06_placed.T8009)), (58, cut Tryd.prog Gr06_placed.fr58 Gr06_placed.ou58 (Gr06_placed.T58 NN))]
def Gr06_placed.Λ : Cuts (Tp Gr06_placed.rk) := cutsOf [(506, cut Tryd.prog Gr06_placed.fr506 Gr06_placed.ou506 (Gr06_placed.T506 NN)), (250, cut Tryd.prog Gr06_placed.fr250 Gr06_placed.ou250 (Gr06_placed.T250 NN)), (8009, cut Tryd.prog Gr06_placed.fr8009 Gr06_placed.ou8009 (Gr06_placed.T8009)), (58, cut Tryd.prog Gr06_placed.fr58 Gr06_placed.ou58 (Gr06_placed.T58 NN))]
theorem Gr06_placed.c58 (A : Ks) (w0 : World) : CutOk Tryd.prog ⟨Tryd.f37.ntmps, 0, A⟩ w0 (kRet Tryd.prog Tryd.f37.results.toList Gr06_placed.rk) (bodyOf Tryd.f37) 58 (cut Tryd.prog Gr06_placed.fr58 Gr06_placed.ou58 (Gr06_placed.T58 NN)) :=
  loop_ok Gr06_placed.hρ (Λ := Gr06_placed.Λ0) (cuts_nil) (by kernel_rfl) (D := 64) (b := loopOf Tryd.f37 58) (by kernel_rfl) (by kernel_rfl) NN (fun x κ => by kernel_rfl) (fun k x κ => by kernel_rfl)
theorem Gr06_placed.c8009 (A : Ks) (w0 : World) : CutOk Tryd.prog ⟨Tryd.f37.ntmps, 0, A⟩ w0 (kRet Tryd.prog Tryd.f37.results.toList Gr06_placed.rk) (bodyOf Tryd.f37) 8009 (cut Tryd.prog Gr06_placed.fr8009 Gr06_placed.ou8009 (Gr06_placed.T8009)) :=
  cut_ok Gr06_placed.hρ (Λ := Gr06_placed.Λ1) (cuts_cons (Gr06_placed.c58 A w0) (cuts_nil)) (by kernel_rfl) (by kernel_rfl) (D := 64) (c := nodeOf Tryd.f37 8009) (by kernel_rfl) (by kernel_rfl) (fun x κ => by kernel_rfl)
theorem Gr06_placed.c250 (A : Ks) (w0 : World) : CutOk Tryd.prog ⟨Tryd.f37.ntmps, 0, A⟩ w0 (kRet Tryd.prog Tryd.f37.results.toList Gr06_placed.rk) (bodyOf Tryd.f37) 250 (cut Tryd.prog Gr06_placed.fr250 Gr06_placed.ou250 (Gr06_placed.T250 NN)) :=
  loop_ok Gr06_placed.hρ (Λ := Gr06_placed.Λ2) (cuts_cons (Gr06_placed.c8009 A w0) (cuts_cons (Gr06_placed.c58 A w0) (cuts_nil))) (by kernel_rfl) (D := 64) (b := loopOf Tryd.f37 250) (by kernel_rfl) (by kernel_rfl) NN (fun x κ => by kernel_rfl) (fun k x κ => by kernel_rfl)
theorem Gr06_placed.c506 (A : Ks) (w0 : World) : CutOk Tryd.prog ⟨Tryd.f37.ntmps, 0, A⟩ w0 (kRet Tryd.prog Tryd.f37.results.toList Gr06_placed.rk) (bodyOf Tryd.f37) 506 (cut Tryd.prog Gr06_placed.fr506 Gr06_placed.ou506 (Gr06_placed.T506 NN)) :=
  loop_ok Gr06_placed.hρ (Λ := Gr06_placed.Λ3) (cuts_cons (Gr06_placed.c250 A w0) (cuts_cons (Gr06_placed.c8009 A w0) (cuts_cons (Gr06_placed.c58 A w0) (cuts_nil)))) (by kernel_rfl) (D := 64) (b := loopOf Tryd.f37 506) (by kernel_rfl) (by kernel_rfl) NN (fun x κ => by kernel_rfl) (fun k x κ => by kernel_rfl)
theorem Gr06_placed.spec : Spec Tryd.prog 37 Gr06_placed.pk Gr06_placed.rk Gr06_placed.g :=
  spec_of_body (fn := Tryd.f37) (c := bodyOf Tryd.f37) (by kernel_rfl) (by kernel_rfl) (by kernel_rfl) (by kernel_rfl) (ρ := Gr06_placed.ρ) Gr06_placed.hρ (Λ := Gr06_placed.Λ) (fun A w0 => cuts_cons (Gr06_placed.c506 A w0) (cuts_cons (Gr06_placed.c250 A w0) (cuts_cons (Gr06_placed.c8009 A w0) (cuts_cons (Gr06_placed.c58 A w0) (cuts_nil))))) (fun x => by kernel_rfl)

/-! ### 56 bluebell/bluebellref06.After -/
def Gr06_After.p55295 (v1 : Int) (v2 : D) (v6 : Int) (v43 : Bool) (κ0 : Int → Option Int) : Option Int :=
  bif v43 then some (IntKind.i64.wrap (((v2.cell 1).int) + 1)) else bif (v6 == 24) then some (IntKind.i64.wrap (2 + ((v2.cell 2).int))) else κ0 v1
def Gr06_After.p215 (v1 : Int) (v2 : D) (v6 : Int) (v18 : Bool) (κ0 : Int → Option Int) : Option Int :=
  bif v18 then some (IntKind.i64.wrap (v1 - 1)) else bif (v6 == 13) then some (IntKind.i64.wrap (v1 - 2)) else bif (v6 == 15) then some (IntKind.i64.wrap (v1 - 3)) else bif (v6 == 18) then some ((v2.cell 1).int) else bif (v6 == 23) then Gr06_After.p55295 v1 v2 v6 (v6 == 23) (fun y1 => κ0 y1) else Gr06_After.p55295 v1 v2 v6 (v6 == 28) (fun y2 => κ0 y2)
def Gr06_After.p53 (v1 : Int) (v2 : D) (v6 : Int) (v7 : Bool) (κ0 : Int → Option Int) : Option Int :=
  bif v7 then some (IntKind.i64.wrap (v1 + 1)) else bif (v6 == 3) then Gr06_After.p215 v1 v2 v6 (v6 == 3) (fun y3 => κ0 y3) else bif (v6 == 6) then Gr06_After.p215 v1 v2 v6 (v6 == 6) (fun y4 => κ0 y4) else bif (v6 == 9) then Gr06_After.p215 v1 v2 v6 (v6 == 9) (fun y5 => κ0 y5) else bif (v6 == 16) then Gr06_After.p215 v1 v2 v6 (v6 == 16) (fun y6 => κ0 y6) else bif (v6 == 14) then Gr06_After.p215 v1 v2 v6 (v6 == 14) (fun y7 => κ0 y7) else bif (v6 == 21) then Gr06_After.p215 v1 v2 v6 (v6 == 21) (fun y8 => κ0 y8) else bif (v6 == 22) then Gr06_After.p215 v1 v2 v6 (v6 == 22) (fun y9 => κ0 y9) else bif (v6 == 29) then Gr06_After.p215 v1 v2 v6 (v6 == 29) (fun y10 => κ0 y10) else bif (v6 == 25) then Gr06_After.p215 v1 v2 v6 (v6 == 25) (fun y11 => κ0 y11) else Gr06_After.p215 v1 v2 v6 (v6 == 27) (fun y12 => κ0 y12)
def Gr06_After.f (a0 : D) (a1 : Int) : Option Int :=
  bif (((a0.cell 0).int) == 1) then Gr06_After.p53 a1 a0 ((a0.cell 0).int) (((a0.cell 0).int) == 1) (fun y13 => some y13) else bif (((a0.cell 0).int) == 2) then Gr06_After.p53 a1 a0 ((a0.cell 0).int) (((a0.cell 0).int) == 2) (fun y14 => some y14) else bif (((a0.cell 0).int) == 4) then Gr06_After.p53 a1 a0 ((a0.cell 0).int) (((a0.cell 0).int) == 4) (fun y15 => some y15) else bif (((a0.cell 0).int) == 5) then Gr06_After.p53 a1 a0 ((a0.cell 0).int) (((a0.cell 0).int) == 5) (fun y16 => some y16) else bif (((a0.cell 0).int) == 7) then Gr06_After.p53 a1 a0 ((a0.cell 0).int) (((a0.cell 0).int) == 7) (fun y17 => some y17) else bif (((a0.cell 0).int) == 8) then Gr06_After.p53 a1 a0 ((a0.cell 0).int) (((a0.cell 0).int) == 8) (fun y18 => some y18) else bif (((a0.cell 0).int) == 10) then Gr06_After.p53 a1 a0 ((a0.cell 0).int) (((a0.cell 0).int) == 10) (fun y19 => some y19) else Gr06_After.p53 a1 a0 ((a0.cell 0).int) (((a0.cell 0).int) == 11) (fun y20 => some y20)
def Gr06_After.pk : List FK := [.st 34, .int .i64]
def Gr06_After.rk : List FK := [.int .i64]
def Gr06_After.g : Tp Gr06_After.pk → Option (Tp Gr06_After.rk) := fun x => Gr06_After.f x.1 x.2
def Gr06_After.ρ : List (Entry (Tp Gr06_After.rk)) := []
theorem Gr06_After.hρ : ∀ e ∈ Gr06_After.ρ, EntryOk Tryd.prog e :=
  ents_nil
def Gr06_After.fr55295 : Fr := [(1, .int .i64), (2, .bx (.st 34)), (6, .int .i64), (43, .bool)]
def Gr06_After.ou55295 : Outs := [(0, [(1, .int .i64)])]
def Gr06_After.T55295 (x : Gr06_After.fr55295.T) (κ : Kp (Tp Gr06_After.rk) Gr06_After.ou55295) : Option (Tp Gr06_After.rk) := Gr06_After.p55295 x.1 x.2.1 x.2.2.1 x.2.2.2 κ.1
def Gr06_After.fr215 : Fr := [(1, .int .i64), (2, .bx (.st 34)), (6, .int .i64), (18, .bool)]
def Gr06_After.ou215 : Outs := [(0, [(1, .int .i64)])]
def Gr06_After.T215 (x : Gr06_After.fr215.T) (κ : Kp (Tp Gr06_After.rk) Gr06_After.ou215) : Option (Tp Gr06_After.rk) := Gr06_After.p215 x.1 x.2.1 x.2.2.1 x.2.2.2 κ.1
def Gr06_After.fr53 : Fr := [(1, .int .i64), (2, .bx (.st 34)), (6, .int .i64), (7, .bool)]
def Gr06_After.ou53 : Outs := [(0, [(1, .int .i64)])]
def Gr06_After.T53 (x : Gr06_After.fr53.T) (κ : Kp (Tp Gr06_After.rk) Gr06_After.ou53) : Option (Tp Gr06_After.rk) := Gr06_After.p53 x.1 x.2.1 x.2.2.1 x.2.2.2 κ.1
def Gr06_After.Λ0 : Cuts (Tp Gr06_After.rk) := cutsOf []
def Gr06_After.Λ1 : Cuts (Tp Gr06_After.rk) := cutsOf [(55295, cut Tryd.prog Gr06_After.fr55295 Gr06_After.ou55295 (Gr06_After.T55295))]
def Gr06_After.Λ2 : Cuts (Tp Gr06_After.rk) := cutsOf [(215, cut Tryd.prog Gr06_After.fr215 Gr06_After.ou215 (Gr06_After.T215)), (55295, cut Tryd.prog Gr06_After.fr55295 Gr06_After.ou55295 (Gr06_After.T55295))]
def Gr06_After.Λ : Cuts (Tp Gr06_After.rk) := cutsOf [(53, cut Tryd.prog Gr06_After.fr53 Gr06_After.ou53 (Gr06_After.T53)), (215, cut Tryd.prog Gr06_After.fr215 Gr06_After.ou215 (Gr06_After.T215)), (55295, cut Tryd.prog Gr06_After.fr55295 Gr06_After.ou55295 (Gr06_After.T55295))]
theorem Gr06_After.c55295 (A : Ks) (w0 : World) : CutOk Tryd.prog ⟨Tryd.f56.ntmps, 0, A⟩ w0 (kRet Tryd.prog Tryd.f56.results.toList Gr06_After.rk) (bodyOf Tryd.f56) 55295 (cut Tryd.prog Gr06_After.fr55295 Gr06_After.ou55295 (Gr06_After.T55295)) :=
  cut_ok Gr06_After.hρ (Λ := Gr06_After.Λ0) (cuts_nil) (by kernel_rfl) (by kernel_rfl) (D := 64) (c := nodeOf Tryd.f56 55295) (by kernel_rfl) (by kernel_rfl) (fun x κ => by kernel_rfl)
theorem Gr06_After.c215 (A : Ks) (w0 : World) : CutOk Tryd.prog ⟨Tryd.f56.ntmps, 0, A⟩ w0 (kRet Tryd.prog Tryd.f56.results.toList Gr06_After.rk) (bodyOf Tryd.f56) 215 (cut Tryd.prog Gr06_After.fr215 Gr06_After.ou215 (Gr06_After.T215)) :=
  cut_ok Gr06_After.hρ (Λ := Gr06_After.Λ1) (cuts_cons (Gr06_After.c55295 A w0) (cuts_nil)) (by kernel_rfl) (by kernel_rfl) (D := 64) (c := nodeOf Tryd.f56 215) (by kernel_rfl) (by kernel_rfl) (fun x κ => by kernel_rfl)
theorem Gr06_After.c53 (A : Ks) (w0 : World) : CutOk Tryd.prog ⟨Tryd.f56.ntmps, 0, A⟩ w0 (kRet Tryd.prog Tryd.f56.results.toList Gr06_After.rk) (bodyOf Tryd.f56) 53 (cut Tryd.prog Gr06_After.fr53 Gr06_After.ou53 (Gr06_After.T53)) :=
  cut_ok Gr06_After.hρ (Λ := Gr06_After.Λ2) (cuts_cons (Gr06_After.c215 A w0) (cuts_cons (Gr06_After.c55295 A w0) (cuts_nil))) (by kernel_rfl) (by kernel_rfl) (D := 64) (c := nodeOf Tryd.f56 53) (by kernel_rfl) (by kernel_rfl) (fun x κ => by kernel_rfl)
theorem Gr06_After.spec : Spec Tryd.prog 56 Gr06_After.pk Gr06_After.rk Gr06_After.g :=
  spec_of_body (fn := Tryd.f56) (c := bodyOf Tryd.f56) (by kernel_rfl) (by kernel_rfl) (by kernel_rfl) (by kernel_rfl) (ρ := Gr06_After.ρ) Gr06_After.hρ (Λ := Gr06_After.Λ) (fun A w0 => cuts_cons (Gr06_After.c53 A w0) (cuts_cons (Gr06_After.c215 A w0) (cuts_cons (Gr06_After.c55295 A w0) (cuts_nil)))) (fun x => by kernel_rfl)

/-! ### 57 bluebell/bluebellref06.needs -/
def Gr06_needs.p215 (v4 : Int) (v16 : Bool) (κ0 : Unit → Option Int) : Option Int :=
  bif v16 then some 2 else bif (v4 == 15) then some 3 else κ0 ()
def Gr06_needs.p53 (v4 : Int) (v5 : Bool) (κ0 : Unit → Option Int) : Option Int :=
  bif v5 then some 1 else bif (v4 == 16) then Gr06_needs.p215 v4 (v4 == 16) (fun y1 => κ0 ()) else bif (v4 == 14) then Gr06_needs.p215 v4 (v4 == 14) (fun y2 => κ0 ()) else Gr06_needs.p215 v4 (v4 == 13) (fun y3 => κ0 ())
def Gr06_needs.f (a0 : D) : Option Int :=
  bif (((a0.cell 0).int) == 3) then Gr06_needs.p53 ((a0.cell 0).int) (((a0.cell 0).int) == 3) (fun y4 => some 0) else bif (((a0.cell 0).int) == 6) then Gr06_needs.p53 ((a0.cell 0).int) (((a0.cell 0).int) == 6) (fun y5 => some 0) else bif (((a0.cell 0).int) == 9) then Gr06_needs.p53 ((a0.cell 0).int) (((a0.cell 0).int) == 9) (fun y6 => some 0) else bif (((a0.cell 0).int) == 12) then Gr06_needs.p53 ((a0.cell 0).int) (((a0.cell 0).int) == 12) (fun y7 => some 0) else bif (((a0.cell 0).int) == 17) then Gr06_needs.p53 ((a0.cell 0).int) (((a0.cell 0).int) == 17) (fun y8 => some 0) else bif (((a0.cell 0).int) == 21) then Gr06_needs.p53 ((a0.cell 0).int) (((a0.cell 0).int) == 21) (fun y9 => some 0) else bif (((a0.cell 0).int) == 22) then Gr06_needs.p53 ((a0.cell 0).int) (((a0.cell 0).int) == 22) (fun y10 => some 0) else bif (((a0.cell 0).int) == 29) then Gr06_needs.p53 ((a0.cell 0).int) (((a0.cell 0).int) == 29) (fun y11 => some 0) else bif (((a0.cell 0).int) == 25) then Gr06_needs.p53 ((a0.cell 0).int) (((a0.cell 0).int) == 25) (fun y12 => some 0) else Gr06_needs.p53 ((a0.cell 0).int) (((a0.cell 0).int) == 27) (fun y13 => some 0)
def Gr06_needs.pk : List FK := [.st 34]
def Gr06_needs.rk : List FK := [.int .i64]
def Gr06_needs.g : Tp Gr06_needs.pk → Option (Tp Gr06_needs.rk) := fun x => Gr06_needs.f x
def Gr06_needs.ρ : List (Entry (Tp Gr06_needs.rk)) := []
theorem Gr06_needs.hρ : ∀ e ∈ Gr06_needs.ρ, EntryOk Tryd.prog e :=
  ents_nil
def Gr06_needs.fr215 : Fr := [(4, .int .i64), (16, .bool)]
def Gr06_needs.ou215 : Outs := [(0, [])]
def Gr06_needs.T215 (x : Gr06_needs.fr215.T) (κ : Kp (Tp Gr06_needs.rk) Gr06_needs.ou215) : Option (Tp Gr06_needs.rk) := Gr06_needs.p215 x.1 x.2 κ.1
def Gr06_needs.fr53 : Fr := [(4, .int .i64), (5, .bool)]
def Gr06_needs.ou53 : Outs := [(0, [])]
def Gr06_needs.T53 (x : Gr06_needs.fr53.T) (κ : Kp (Tp Gr06_needs.rk) Gr06_needs.ou53) : Option (Tp Gr06_needs.rk) := Gr06_needs.p53 x.1 x.2 κ.1
def Gr06_needs.Λ0 : Cuts (Tp Gr06_needs.rk) := cutsOf []
def Gr06_needs.Λ1 : Cuts (Tp Gr06_needs.rk) := cutsOf [(215, cut Tryd.prog Gr06_needs.fr215 Gr06_needs.ou215 (Gr06_needs.T215))]
def Gr06_needs.Λ : Cuts (Tp Gr06_needs.rk) := cutsOf [(53, cut Tryd.prog Gr06_needs.fr53 Gr06_needs.ou53 (Gr06_needs.T53)), (215, cut Tryd.prog Gr06_needs.fr215 Gr06_needs.ou215 (Gr06_needs.T215))]
theorem Gr06_needs.c215 (A : Ks) (w0 : World) : CutOk Tryd.prog ⟨Tryd.f57.ntmps, 0, A⟩ w0 (kRet Tryd.prog Tryd.f57.results.toList Gr06_needs.rk) (bodyOf Tryd.f57) 215 (cut Tryd.prog Gr06_needs.fr215 Gr06_needs.ou215 (Gr06_needs.T215)) :=
  cut_ok Gr06_needs.hρ (Λ := Gr06_needs.Λ0) (cuts_nil) (by kernel_rfl) (by kernel_rfl) (D := 64) (c := nodeOf Tryd.f57 215) (by kernel_rfl) (by kernel_rfl) (fun x κ => by kernel_rfl)
theorem Gr06_needs.c53 (A : Ks) (w0 : World) : CutOk Tryd.prog ⟨Tryd.f57.ntmps, 0, A⟩ w0 (kRet Tryd.prog Tryd.f57.results.toList Gr06_needs.rk) (bodyOf Tryd.f57) 53 (cut Tryd.prog Gr06_needs.fr53 Gr06_needs.ou53 (Gr06_needs.T53)) :=
  cut_ok Gr06_needs.hρ (Λ := Gr06_needs.Λ1) (cuts_cons (Gr06_needs.c215 A w0) (cuts_nil)) (by kernel_rfl) (by kernel_rfl) (D := 64) (c := nodeOf Tryd.f57 53) (by kernel_rfl) (by kernel_rfl) (fun x κ => by kernel_rfl)
theorem Gr06_needs.spec : Spec Tryd.prog 57 Gr06_needs.pk Gr06_needs.rk Gr06_needs.g :=
  spec_of_body (fn := Tryd.f57) (c := bodyOf Tryd.f57) (by kernel_rfl) (by kernel_rfl) (by kernel_rfl) (by kernel_rfl) (ρ := Gr06_needs.ρ) Gr06_needs.hρ (Λ := Gr06_needs.Λ) (fun A w0 => cuts_cons (Gr06_needs.c53 A w0) (cuts_cons (Gr06_needs.c215 A w0) (cuts_nil))) (fun x => by kernel_rfl)

/-! ### 58 bluebell/bluebellref06.local -/
def Gr06_local.p53 (v1 : Int) (v2 : D) (v6 : Int) (v7 : Bool) (κ0 : Unit → Option Bool) : Option Bool :=
  bif v7 then (Gr06_in.f ((v2.cell 1).int) 2 (IntKind.i64.wrap (v1 - 1))).bind fun r1 => some r1 else bif (v6 == 4) then some (decide (((v2.cell 1).int) ≥ 2)) else bif (v6 == 23) then (Gr06_in.f ((v2.cell 1).int) 2 (IntKind.i64.wrap (v1 - 3))).bind fun r2 => some r2 else bif (v6 == 18) then some (decide (((v2.cell 1).int) ≤ (IntKind.i64.wrap ((IntKind.i64.wrap (v1 + 2000)) + 2)))) else κ0 ()
def Gr06_local.f (a0 : D) (a1 : Int) : Option Bool :=
  bif (((a0.cell 0).int) == 2) then Gr06_local.p53 a1 a0 ((a0.cell 0).int) (((a0.cell 0).int) == 2) (fun y3 => some true) else Gr06_local.p53 a1 a0 ((a0.cell 0).int) (((a0.cell 0).int) == 3) (fun y4 => some true)
def Gr06_local.pk : List FK := [.st 34, .int .i64]
def Gr06_local.rk : List FK := [.bool]
def Gr06_local.g : Tp Gr06_local.pk → Option (Tp Gr06_local.rk) := fun x => Gr06_local.f x.1 x.2
def Gr06_local.ρ : List (Entry (Tp Gr06_local.rk)) := [entry _ Tryd.prog 53 Gr06_in.pk Gr06_in.rk Gr06_in.g]
theorem Gr06_local.hρ : ∀ e ∈ Gr06_local.ρ, EntryOk Tryd.prog e :=
  ents_cons (ent (fn := Tryd.f53) Gr06_in.spec (by kernel_rfl) (by kernel_rfl) (by kernel_rfl) (by kernel_rfl)) (ents_nil)
def Gr06_local.fr53 : Fr := [(1, .int .i64), (2, .bx (.st 34)), (6, .int .i64), (7, .bool)]
def Gr06_local.ou53 : Outs := [(0, [])]
def Gr06_local.T53 (x : Gr06_local.fr53.T) (κ : Kp (Tp Gr06_local.rk) Gr06_local.ou53) : Option (Tp Gr06_local.rk) := Gr06_local.p53 x.1 x.2.1 x.2.2.1 x.2.2.2 κ.1
def Gr06_local.Λ0 : Cuts (Tp Gr06_local.rk) := cutsOf []
def Gr06_local.Λ : Cuts (Tp Gr06_local.rk) := cutsOf [(53, cut Tryd.prog Gr06_local.fr53 Gr06_local.ou53 (Gr06_local.T53))]
theorem Gr06_local.c53 (A : Ks) (w0 : World) : CutOk Tryd.prog ⟨Tryd.f58.ntmps, 0, A⟩ w0 (kRet Tryd.prog Tryd.f58.results.toList Gr06_local.rk) (bodyOf Tryd.f58) 53 (cut Tryd.prog Gr06_local.fr53 Gr06_local.ou53 (Gr06_local.T53)) :=
  cut_ok Gr06_local.hρ (Λ := Gr06_local.Λ0) (cuts_nil) (by kernel_rfl) (by kernel_rfl) (D := 64) (c := nodeOf Tryd.f58 53) (by kernel_rfl) (by kernel_rfl) (fun x κ => by kernel_rfl)
theorem Gr06_local.spec : Spec Tryd.prog 58 Gr06_local.pk Gr06_local.rk Gr06_local.g :=
  spec_of_body (fn := Tryd.f58) (c := bodyOf Tryd.f58) (by kernel_rfl) (by kernel_rfl) (by kernel_rfl) (by kernel_rfl) (ρ := Gr06_local.ρ) Gr06_local.hρ (Λ := Gr06_local.Λ) (fun A w0 => cuts_cons (Gr06_local.c53 A w0) (cuts_nil)) (fun x => by kernel_rfl)

/-! ### 59 bluebell/bluebellref06.lands -/
def Gr06_lands.l12 : Nat → (List D) → Int → ((List D × Int) → Option Bool) → Option Bool
  | 0, _, _, _ => none
  | k + 1, v0, v1, κ1 =>
    gd ((!(decide (v1 < (v0.length : Int)))) || (inB v1 v0.length)) (bif ((decide (v1 < (v0.length : Int))) && ((((rd v0 v1.toNat).cell 0).int) == 19)) then Gr06_lands.l12 k v0 (IntKind.i64.wrap (v1 + 1)) κ1 else κ1 (v0, v1))
def Gr06_lands.f (a0 : List D) (a1 : Int) : Option Bool :=
  Gr06_lands.l12 NN a0 a1 (fun y1 => gd ((!(decide (y1.2 < (y1.1.length : Int)))) || (inB y1.2 y1.1.length)) (some ((decide (y1.2 < (y1.1.length : Int))) && ((((rd y1.1 y1.2.toNat).cell 0).int) == 28))))
def Gr06_lands.pk : List FK := [.sl 34, .int .i64]
def Gr06_lands.rk : List FK := [.bool]
def Gr06_lands.g : Tp Gr06_lands.pk → Option (Tp Gr06_lands.rk) := fun x => Gr06_lands.f x.1 x.2
def Gr06_lands.ρ : List (Entry (Tp Gr06_lands.rk)) := []
theorem Gr06_lands.hρ : ∀ e ∈ Gr06_lands.ρ, EntryOk Tryd.prog e :=
  ents_nil
def Gr06_lands.fr12 : Fr := [(0, .sl 34), (1, .int .i64)]
def Gr06_lands.ou12 : Outs := [(1, [(0, .sl 34), (1, .int .i64)])]
def Gr06_lands.T12 (k : Nat) (x : Gr06_lands.fr12.T) (κ : Kp (Tp Gr06_lands.rk) Gr06_lands.ou12) : Option (Tp Gr06_lands.rk) := Gr06_lands.l12 k x.1 x.2 κ.1
def Gr06_lands.Λ0 : Cuts (Tp Gr06_lands.rk) := cutsOf []
def Gr06_lands.Λ : Cuts (Tp Gr06_lands.rk) := cutsOf [(12, cut Tryd.prog Gr06_lands.fr12 Gr06_lands.ou12 (Gr06_lands.T12 NN))]
theorem Gr06_lands.c12 (A : Ks) (w0 : World) : CutOk Tryd.prog ⟨Tryd.f59.ntmps, 0, A⟩ w0 (kRet Tryd.prog Tryd.f59.results.toList Gr06_lands.rk) (bodyOf Tryd.f59) 12 (cut Tryd.prog Gr06_lands.fr12 Gr06_lands.ou12 (Gr06_lands.T12 NN)) :=
  loop_ok Gr06_lands.hρ (Λ := Gr06_lands.Λ0) (cuts_nil) (by kernel_rfl) (D := 64) (b := loopOf Tryd.f59 12) (by kernel_rfl) (by kernel_rfl) NN (fun x κ => by kernel_rfl) (fun k x κ => by kernel_rfl)
theorem Gr06_lands.spec : Spec Tryd.prog 59 Gr06_lands.pk Gr06_lands.rk Gr06_lands.g :=
  spec_of_body (fn := Tryd.f59) (c := bodyOf Tryd.f59) (by kernel_rfl) (by kernel_rfl) (by kernel_rfl) (by kernel_rfl) (ρ := Gr06_lands.ρ) Gr06_lands.hρ (Λ := Gr06_lands.Λ) (fun A w0 => cuts_cons (Gr06_lands.c12 A w0) (cuts_nil)) (fun x => by kernel_rfl)

/-! ### 38 bluebell/bluebellref06.deep -/
def Gr06_deep.l58 : Nat → D → D → Int → Bool → Int → (Unit → Option Bool) → Option Bool
  | 0, _, _, _, _, _, _ => none
  | k + 1, v2, v3, v5, v6, v7, κ1 =>
    bif decide (v7 < (((v2.cell 2).list).length : Int)) then gd (inB v7 ((v2.cell 2).list).length) (bif ((((rd ((v2.cell 2).list) v7.toNat).cell 0).int) == 24) then Gr06_deep.l58 k v2 v3 (IntKind.i64.wrap (2 + (((rd ((v2.cell 2).list) v7.toNat).cell 2).int))) true (IntKind.i64.wrap (v7 + 1)) κ1 else (Gr06_After.f (rd ((v2.cell 2).list) v7.toNat) v5).bind fun r1 => gd ((!((((rd ((v2.cell 2).list) v7.toNat).cell 0).int) == 18)) || (inB (IntKind.i64.wrap (v7 - 1)) ((v2.cell 2).list).length)) ((Gr06_needs.f (rd ((v2.cell 2).list) v7.toNat)).bind fun r2 => (bif (!(decide ((IntKind.i64.wrap (v5 - r2)) < 2))) then Gr06_in.f r1 2 4000 else some false).bind fun r3 => (bif ((!((decide ((IntKind.i64.wrap (v5 - r2)) < 2)) || (!r3))) && (!(((((rd ((v2.cell 2).list) v7.toNat).cell 0).int) == 18) && ((((rd ((v2.cell 2).list) (IntKind.i64.wrap (v7 - 1)).toNat).cell 0).int) == 19)))) then Gr06_local.f (rd ((v2.cell 2).list) v7.toNat) v5 else some false).bind fun r4 => bif (((decide ((IntKind.i64.wrap (v5 - r2)) < 2)) || (!r3)) || ((!(((((rd ((v2.cell 2).list) v7.toNat).cell 0).int) == 18) && ((((rd ((v2.cell 2).list) (IntKind.i64.wrap (v7 - 1)).toNat).cell 0).int) == 19))) && (!r4))) then some false else bif (((((rd ((v2.cell 2).list) v7.toNat).cell 0).int) == 28) && v6) then some false else (Gr06_Label.f (rd ((v2.cell 2).list) v7.toNat)).bind fun r5 => gd ((!(decide (r5 > 0))) || (inB r5 ((v3.cell 0).list).length)) ((bif (decide (r5 > 0)) then Gr06_lands.f ((v2.cell 2).list) ((rd ((v3.cell 0).list) r5.toNat).int) else some false).bind fun r6 => bif ((decide (r5 > 0)) && (!(r6 == ((((rd ((v2.cell 2).list) v7.toNat).cell 0).int) == 27)))) then some false else bif ((((rd ((v2.cell 2).list) v7.toNat).cell 0).int) != 19) then (Gr06_GoesOn.f (rd ((v2.cell 2).list) v7.toNat)).bind fun r7 => Gr06_deep.l58 k v2 v3 r1 r7 (IntKind.i64.wrap (v7 + 1)) κ1 else Gr06_deep.l58 k v2 v3 r1 v6 (IntKind.i64.wrap (v7 + 1)) κ1))) else κ1 ()
def Gr06_deep.f (a0 : D) (a1 : D) : Option Bool :=
  Gr06_deep.l58 NN a0 a1 0 false 0 (fun y8 => some true)
def Gr06_deep.pk : List FK := [.st 26, .st 71]
def Gr06_deep.rk : List FK := [.bool]
def Gr06_deep.g : Tp Gr06_deep.pk → Option (Tp Gr06_deep.rk) := fun x => Gr06_deep.f x.1 x.2
def Gr06_deep.ρ : List (Entry (Tp Gr06_deep.rk)) := [entry _ Tryd.prog 56 Gr06_After.pk Gr06_After.rk Gr06_After.g, entry _ Tryd.prog 57 Gr06_needs.pk Gr06_needs.rk Gr06_needs.g, entry _ Tryd.prog 53 Gr06_in.pk Gr06_in.rk Gr06_in.g, entry _ Tryd.prog 58 Gr06_local.pk Gr06_local.rk Gr06_local.g, entry _ Tryd.prog 55 Gr06_Label.pk Gr06_Label.rk Gr06_Label.g, entry _ Tryd.prog 59 Gr06_lands.pk Gr06_lands.rk Gr06_lands.g, entry _ Tryd.prog 54 Gr06_GoesOn.pk Gr06_GoesOn.rk Gr06_GoesOn.g]
theorem Gr06_deep.hρ : ∀ e ∈ Gr06_deep.ρ, EntryOk Tryd.prog e :=
  ents_cons (ent (fn := Tryd.f56) Gr06_After.spec (by kernel_rfl) (by kernel_rfl) (by kernel_rfl) (by kernel_rfl)) (ents_cons (ent (fn := Tryd.f57) Gr06_needs.spec (by kernel_rfl) (by kernel_rfl) (by kernel_rfl) (by kernel_rfl)) (ents_cons (ent (fn := Tryd.f53) Gr06_in.spec (by kernel_rfl) (by kernel_rfl) (by kernel_rfl) (by kernel_rfl)) (ents_cons (ent (fn := Tryd.f58) Gr06_local.spec (by kernel_rfl) (by kernel_rfl) (by kernel_rfl) (by kernel_rfl)) (ents_cons (ent (fn := Tryd.f55) Gr06_Label.spec (by kernel_rfl) (by kernel_rfl) (by kernel_rfl) (by kernel_rfl)) (ents_cons (ent (fn := Tryd.f59) Gr06_lands.spec (by kernel_rfl) (by kernel_rfl) (by kernel_rfl) (by kernel_rfl)) (ents_cons (ent (fn := Tryd.f54) Gr06_GoesOn.spec (by kernel_rfl) (by kernel_rfl) (by kernel_rfl) (by kernel_rfl)) (ents_nil)))))))
def Gr06_deep.fr58 : Fr := [(2, .bx (.st 26)), (3, .bx (.st 71)), (5, .int .i64), (6, .bool), (7, .int .i64)]
def Gr06_deep.ou58 : Outs := [(1, [])]
def Gr06_deep.T58 (k : Nat) (x : Gr06_deep.fr58.T) (κ : Kp (Tp Gr06_deep.rk) Gr06_deep.ou58) : Option (Tp Gr06_deep.rk) := Gr06_deep.l58 k x.1 x.2.1 x.2.2.1 x.2.2.2.1 x.2.2.2.2 κ.1
def Gr06_deep.Λ0 : Cuts (Tp Gr06_deep.rk) := cutsOf []
def Gr06_deep.Λ : Cuts (Tp Gr06_deep.rk) := cutsOf [(58, cut Tryd.prog Gr06_deep.fr58 Gr06_deep.ou58 (Gr06_deep.T58 NN))]
theorem Gr06_deep.c58 (A : Ks) (w0 : World) : CutOk Tryd.prog ⟨Tryd.f38.ntmps, 0, A⟩ w0 (kRet Tryd.prog Tryd.f38.results.toList Gr06_deep.rk) (bodyOf Tryd.f38) 58 (cut Tryd.prog Gr06_deep.fr58 Gr06_deep.ou58 (Gr06_deep.T58 NN)) :=
  loop_ok Gr06_deep.hρ (Λ := Gr06_deep.Λ0) (cuts_nil) (by kernel_rfl) (D := 64) (b := loopOf Tryd.f38 58) (by kernel_rfl) (by kernel_rfl) NN (fun x κ => by kernel_rfl) (fun k x κ => by kernel_rfl)
theorem Gr06_deep.spec : Spec Tryd.prog 38 Gr06_deep.pk Gr06_deep.rk Gr06_deep.g :=
  spec_of_body (fn := Tryd.f38) (c := bodyOf Tryd.f38) (by kernel_rfl) (by kernel_rfl) (by kernel_rfl) (by kernel_rfl) (ρ := Gr06_deep.ρ) Gr06_deep.hρ (Λ := Gr06_deep.Λ) (fun A w0 => cuts_cons (Gr06_deep.c58 A w0) (cuts_nil)) (fun x => by kernel_rfl)

/-! ### 20 bluebell/bluebellref06.Check -/
def Gr06_Check.l122 : Nat → D → Int → (D → Option Int) → Option Int
  | 0, _, _, _ => none
  | k + 1, v1, v3, κ1 =>
    bif decide (v3 < (((v1.cell 2).list).length : Int)) then gd (inB v3 ((v1.cell 2).list).length) ((Gr06_numbers.f v1 (rd ((v1.cell 2).list) v3.toNat)).bind fun r3 => bif (!r3) then some 60 else Gr06_Check.l122 k v1 (IntKind.i64.wrap (v3 + 1)) κ1) else κ1 v1
def Gr06_Check.f (a0 : D) : Option Int :=
  (Gr06_tooMuch.f a0).bind fun r1 => bif r1 then some 2 else (bif (!((decide (((a0.cell 4).int) < 0)) || (decide (((a0.cell 5).int) < 0)))) then Gr06_areas.f a0 else some false).bind fun r2 => bif (((decide (((a0.cell 4).int) < 0)) || (decide (((a0.cell 5).int) < 0))) || (!r2)) then some 60 else Gr06_Check.l122 NN a0 0 (fun y4 => (Gr06_order.f y4).bind fun r5 => bif (!r5) then some 60 else (Gr06_placed.f y4).bind fun r6 => bif (!r6.2) then some 60 else (Gr06_deep.f y4 r6.1).bind fun r7 => bif (!r7) then some 61 else some 0)
def Gr06_Check.pk : List FK := [.st 26]
def Gr06_Check.rk : List FK := [.int .i64]
def Gr06_Check.g : Tp Gr06_Check.pk → Option (Tp Gr06_Check.rk) := fun x => Gr06_Check.f x
def Gr06_Check.ρ : List (Entry (Tp Gr06_Check.rk)) := [entry _ Tryd.prog 33 Gr06_tooMuch.pk Gr06_tooMuch.rk Gr06_tooMuch.g, entry _ Tryd.prog 34 Gr06_areas.pk Gr06_areas.rk Gr06_areas.g, entry _ Tryd.prog 35 Gr06_numbers.pk Gr06_numbers.rk Gr06_numbers.g, entry _ Tryd.prog 36 Gr06_order.pk Gr06_order.rk Gr06_order.g, entry _ Tryd.prog 37 Gr06_placed.pk Gr06_placed.rk Gr06_placed.g, entry _ Tryd.prog 38 Gr06_deep.pk Gr06_deep.rk Gr06_deep.g]
theorem Gr06_Check.hρ : ∀ e ∈ Gr06_Check.ρ, EntryOk Tryd.prog e :=
  ents_cons (ent (fn := Tryd.f33) Gr06_tooMuch.spec (by kernel_rfl) (by kernel_rfl) (by kernel_rfl) (by kernel_rfl)) (ents_cons (ent (fn := Tryd.f34) Gr06_areas.spec (by kernel_rfl) (by kernel_rfl) (by kernel_rfl) (by kernel_rfl)) (ents_cons (ent (fn := Tryd.f35) Gr06_numbers.spec (by kernel_rfl) (by kernel_rfl) (by kernel_rfl) (by kernel_rfl)) (ents_cons (ent (fn := Tryd.f36) Gr06_order.spec (by kernel_rfl) (by kernel_rfl) (by kernel_rfl) (by kernel_rfl)) (ents_cons (ent (fn := Tryd.f37) Gr06_placed.spec (by kernel_rfl) (by kernel_rfl) (by kernel_rfl) (by kernel_rfl)) (ents_cons (ent (fn := Tryd.f38) Gr06_deep.spec (by kernel_rfl) (by kernel_rfl) (by kernel_rfl) (by kernel_rfl)) (ents_nil))))))
def Gr06_Check.fr122 : Fr := [(1, .bx (.st 26)), (3, .int .i64)]
def Gr06_Check.ou122 : Outs := [(1, [(1, .bx (.st 26))])]
def Gr06_Check.T122 (k : Nat) (x : Gr06_Check.fr122.T) (κ : Kp (Tp Gr06_Check.rk) Gr06_Check.ou122) : Option (Tp Gr06_Check.rk) := Gr06_Check.l122 k x.1 x.2 κ.1
def Gr06_Check.Λ0 : Cuts (Tp Gr06_Check.rk) := cutsOf []
def Gr06_Check.Λ : Cuts (Tp Gr06_Check.rk) := cutsOf [(122, cut Tryd.prog Gr06_Check.fr122 Gr06_Check.ou122 (Gr06_Check.T122 NN))]
theorem Gr06_Check.c122 (A : Ks) (w0 : World) : CutOk Tryd.prog ⟨Tryd.f20.ntmps, 0, A⟩ w0 (kRet Tryd.prog Tryd.f20.results.toList Gr06_Check.rk) (bodyOf Tryd.f20) 122 (cut Tryd.prog Gr06_Check.fr122 Gr06_Check.ou122 (Gr06_Check.T122 NN)) :=
  loop_ok Gr06_Check.hρ (Λ := Gr06_Check.Λ0) (cuts_nil) (by kernel_rfl) (D := 64) (b := loopOf Tryd.f20 122) (by kernel_rfl) (by kernel_rfl) NN (fun x κ => by kernel_rfl) (fun k x κ => by kernel_rfl)
theorem Gr06_Check.spec : Spec Tryd.prog 20 Gr06_Check.pk Gr06_Check.rk Gr06_Check.g :=
  spec_of_body (fn := Tryd.f20) (c := bodyOf Tryd.f20) (by kernel_rfl) (by kernel_rfl) (by kernel_rfl) (by kernel_rfl) (ρ := Gr06_Check.ρ) Gr06_Check.hρ (Λ := Gr06_Check.Λ) (fun A w0 => cuts_cons (Gr06_Check.c122 A w0) (cuts_nil)) (fun x => by kernel_rfl)

/-! ### 22 bluebell/bluebellref06.Decimal -/
def Gr06_Decimal.pk : List FK := [.int .i64]
def Gr06_Decimal.rk : List FK := [.str]
abbrev Gr06_Decimal_S.RT : Type := (Tp Gr06_Decimal.pk → Option (Tp Gr06_Decimal.rk))
def Gr06_Decimal_S.Ok (R : Gr06_Decimal_S.RT) : Prop := Spec Tryd.prog 22 Gr06_Decimal.pk Gr06_Decimal.rk R
def Gr06_Decimal.f (R : Gr06_Decimal_S.RT) (a0 : Int) : Option ByteArray :=
  bif decide (a0 < 0) then bif (a0 == (-9223372036854775808)) then some str2d39323233333732303336383534373735383038 else Option.bind (α := ByteArray) (R (IntKind.i64.wrap (0 - a0))) fun r1 => gd (decide (str2d.size + r1.size ≤ maxS)) (some (str2d ++ r1)) else bif decide (a0 < 10) then gd (decide (0 ≤ a0) && (decide (a0 ≤ (IntKind.i64.wrap (a0 + 1))) && decide ((IntKind.i64.wrap (a0 + 1)) ≤ (str30313233343536373839.size : Int)))) (some (str30313233343536373839.extract a0.toNat (IntKind.i64.wrap (a0 + 1)).toNat)) else gd (!(10 == 0)) (Option.bind (α := ByteArray) (R (IntKind.i64.wrap (a0.tdiv 10))) fun r2 => gd (!(10 == 0)) (gd (!(10 == 0)) (gd (decide (0 ≤ (a0.tmod 10)) && (decide ((a0.tmod 10) ≤ (IntKind.i64.wrap ((a0.tmod 10) + 1))) && decide ((IntKind.i64.wrap ((a0.tmod 10) + 1)) ≤ (str30313233343536373839.size : Int)))) (gd (decide (r2.size + (str30313233343536373839.extract (a0.tmod 10).toNat (IntKind.i64.wrap ((a0.tmod 10) + 1)).toNat).size ≤ maxS)) (some (r2 ++ (str30313233343536373839.extract (a0.tmod 10).toNat (IntKind.i64.wrap ((a0.tmod 10) + 1)).toNat)))))))
def Gr06_Decimal.g (R : Gr06_Decimal_S.RT) : Tp Gr06_Decimal.pk → Option (Tp Gr06_Decimal.rk) := fun x => (Gr06_Decimal.f R) x
def Gr06_Decimal.ρ (R : Gr06_Decimal_S.RT) : List (Entry (Tp Gr06_Decimal.rk)) := [entry _ Tryd.prog 22 Gr06_Decimal.pk Gr06_Decimal.rk R]
theorem Gr06_Decimal.hρ (R : Gr06_Decimal_S.RT) (hR : Gr06_Decimal_S.Ok R) : ∀ e ∈ (Gr06_Decimal.ρ R), EntryOk Tryd.prog e :=
  ents_cons (ent (fn := Tryd.f22) hR (by kernel_rfl) (by kernel_rfl) (by kernel_rfl) (by kernel_rfl)) (ents_nil)
def Gr06_Decimal.Λ (R : Gr06_Decimal_S.RT) : Cuts (Tp Gr06_Decimal.rk) := cutsOf []
theorem Gr06_Decimal.spec (R : Gr06_Decimal_S.RT) (hR : Gr06_Decimal_S.Ok R) : Spec Tryd.prog 22 Gr06_Decimal.pk Gr06_Decimal.rk (Gr06_Decimal.g R) :=
  spec_of_body (fn := Tryd.f22) (c := bodyOf Tryd.f22) (by kernel_rfl) (by kernel_rfl) (by kernel_rfl) (by kernel_rfl) (ρ := (Gr06_Decimal.ρ R)) (Gr06_Decimal.hρ R hR) (Λ := (Gr06_Decimal.Λ R)) (fun A w0 => cuts_nil) (fun x => by kernel_rfl)
def Gr06_Decimal_S.rec : Nat → Gr06_Decimal_S.RT
  | 0 => fun _ => none
  | k + 1 => Gr06_Decimal.g (Gr06_Decimal_S.rec k)
theorem Gr06_Decimal_S.ok : ∀ k, Gr06_Decimal_S.Ok (Gr06_Decimal_S.rec k)
  | 0 => fun x y h => nomatch h
  | k + 1 => Gr06_Decimal.spec _ (Gr06_Decimal_S.ok k)
def Gr06_Decimal.F : Tp Gr06_Decimal.pk → Option (Tp Gr06_Decimal.rk) := (Gr06_Decimal_S.rec NN)
theorem Gr06_Decimal.Spec : Spec Tryd.prog 22 Gr06_Decimal.pk Gr06_Decimal.rk Gr06_Decimal.F := (Gr06_Decimal_S.ok NN)

/-! ### 39 bluebell/bluebellref06.Names -/
def Gr06_Names.f : Option (List D) :=
  some ([.s str6e756d, .s str6c6f63616c, .s str7075746c, .s str616464726c, .s str676c6f62616c, .s str70757467, .s str6164647267, .s str737461746963, .s str70757473, .s str6164647273, .s str70726f63, .s str6c6f6164, .s str73746f7265, .s str67657462, .s str70757462, .s str62696e, .s str756e, .s str737461636b, .s str6c6162656c, .s str6a756d70, .s str74727565, .s str66616c7365, .s str63616c6c, .s str656e746572, .s str72657475726e, .s str6261636b, .s str726573756c74, .s str74616b65, .s str737769746368, .s str63617365] : List D)
def Gr06_Names.pk : List FK := []
def Gr06_Names.rk : List FK := [.own 9]
def Gr06_Names.g : Tp Gr06_Names.pk → Option (Tp Gr06_Names.rk) := fun _ => Gr06_Names.f
def Gr06_Names.ρ : List (Entry (Tp Gr06_Names.rk)) := []
theorem Gr06_Names.hρ : ∀ e ∈ Gr06_Names.ρ, EntryOk Tryd.prog e :=
  ents_nil
def Gr06_Names.Λ : Cuts (Tp Gr06_Names.rk) := cutsOf []
theorem Gr06_Names.spec : Spec Tryd.prog 39 Gr06_Names.pk Gr06_Names.rk Gr06_Names.g :=
  spec_of_body (fn := Tryd.f39) (c := bodyOf Tryd.f39) (by kernel_rfl) (by kernel_rfl) (by kernel_rfl) (by kernel_rfl) (ρ := Gr06_Names.ρ) Gr06_Names.hρ (Λ := Gr06_Names.Λ) (fun A w0 => cuts_nil) (fun x => by kernel_rfl)

/-! ### 40 bluebell/bluebellref06.operators -/
def Gr06_operators.f : Option (List D) :=
  some ([.s str6d756c, .s str646976, .s str72656d, .s str616464, .s str737562, .s str73686c, .s str736872, .s str616e64, .s str6f72, .s str786f72, .s str657176, .s str6571, .s str6e65, .s str6c74, .s str6c65, .s str6774, .s str6765, .s str6e6567, .s str6e6f74] : List D)
def Gr06_operators.pk : List FK := []
def Gr06_operators.rk : List FK := [.own 9]
def Gr06_operators.g : Tp Gr06_operators.pk → Option (Tp Gr06_operators.rk) := fun _ => Gr06_operators.f
def Gr06_operators.ρ : List (Entry (Tp Gr06_operators.rk)) := []
theorem Gr06_operators.hρ : ∀ e ∈ Gr06_operators.ρ, EntryOk Tryd.prog e :=
  ents_nil
def Gr06_operators.Λ : Cuts (Tp Gr06_operators.rk) := cutsOf []
theorem Gr06_operators.spec : Spec Tryd.prog 40 Gr06_operators.pk Gr06_operators.rk Gr06_operators.g :=
  spec_of_body (fn := Tryd.f40) (c := bodyOf Tryd.f40) (by kernel_rfl) (by kernel_rfl) (by kernel_rfl) (by kernel_rfl) (ρ := Gr06_operators.ρ) Gr06_operators.hρ (Λ := Gr06_operators.Λ) (fun A w0 => cuts_nil) (fun x => by kernel_rfl)

/-! ### 23 bluebell/bluebellref06.line -/
def Gr06_line.f (a0 : D) : Option ByteArray :=
  (Gr06_Names.f).bind fun r1 => gd (inB (IntKind.i64.wrap (((a0.cell 0).int) - 1)) r1.length) (gd (Nat.blt (IntKind.i64.wrap (((a0.cell 0).int) - 1)).toNat r1.length) (gd (decide (((rd r1 (IntKind.i64.wrap (((a0.cell 0).int) - 1)).toNat).str).size + str20.size ≤ maxS)) (bif ((((a0.cell 0).int) == 16) || (((a0.cell 0).int) == 17)) then (Gr06_operators.f).bind fun r2 => gd (inB (IntKind.i64.wrap (((a0.cell 1).int) - 1)) r2.length) (gd (Nat.blt (IntKind.i64.wrap (((a0.cell 1).int) - 1)).toNat r2.length) (gd (decide ((((rd r1 (IntKind.i64.wrap (((a0.cell 0).int) - 1)).toNat).str) ++ str20).size + ((rd r2 (IntKind.i64.wrap (((a0.cell 1).int) - 1)).toNat).str).size ≤ maxS)) (gd (decide (((((rd r1 (IntKind.i64.wrap (((a0.cell 0).int) - 1)).toNat).str) ++ str20) ++ ((rd r2 (IntKind.i64.wrap (((a0.cell 1).int) - 1)).toNat).str)).size + str0a.size ≤ maxS)) (some (((((rd r1 (IntKind.i64.wrap (((a0.cell 0).int) - 1)).toNat).str) ++ str20) ++ ((rd r2 (IntKind.i64.wrap (((a0.cell 1).int) - 1)).toNat).str)) ++ str0a))))) else Option.bind (α := ByteArray) (Gr06_Decimal.F ((a0.cell 1).int)) fun r3 => gd (decide ((((rd r1 (IntKind.i64.wrap (((a0.cell 0).int) - 1)).toNat).str) ++ str20).size + r3.size ≤ maxS)) (bif (((((a0.cell 0).int) == 24) || (((a0.cell 0).int) == 29)) || (((a0.cell 0).int) == 30)) then Option.bind (α := ByteArray) (Gr06_Decimal.F ((a0.cell 2).int)) fun r4 => gd (decide (str20.size + r4.size ≤ maxS)) (gd (decide (((((rd r1 (IntKind.i64.wrap (((a0.cell 0).int) - 1)).toNat).str) ++ str20) ++ r3).size + (str20 ++ r4).size ≤ maxS)) (gd (decide ((((((rd r1 (IntKind.i64.wrap (((a0.cell 0).int) - 1)).toNat).str) ++ str20) ++ r3) ++ (str20 ++ r4)).size + str0a.size ≤ maxS)) (some ((((((rd r1 (IntKind.i64.wrap (((a0.cell 0).int) - 1)).toNat).str) ++ str20) ++ r3) ++ (str20 ++ r4)) ++ str0a)))) else gd (decide (((((rd r1 (IntKind.i64.wrap (((a0.cell 0).int) - 1)).toNat).str) ++ str20) ++ r3).size + str0a.size ≤ maxS)) (some (((((rd r1 (IntKind.i64.wrap (((a0.cell 0).int) - 1)).toNat).str) ++ str20) ++ r3) ++ str0a))))))
def Gr06_line.pk : List FK := [.st 34]
def Gr06_line.rk : List FK := [.str]
def Gr06_line.g : Tp Gr06_line.pk → Option (Tp Gr06_line.rk) := fun x => Gr06_line.f x
def Gr06_line.ρ : List (Entry (Tp Gr06_line.rk)) := [entry _ Tryd.prog 39 Gr06_Names.pk Gr06_Names.rk Gr06_Names.g, entry _ Tryd.prog 40 Gr06_operators.pk Gr06_operators.rk Gr06_operators.g, entry _ Tryd.prog 22 Gr06_Decimal.pk Gr06_Decimal.rk Gr06_Decimal.F]
theorem Gr06_line.hρ : ∀ e ∈ Gr06_line.ρ, EntryOk Tryd.prog e :=
  ents_cons (ent (fn := Tryd.f39) Gr06_Names.spec (by kernel_rfl) (by kernel_rfl) (by kernel_rfl) (by kernel_rfl)) (ents_cons (ent (fn := Tryd.f40) Gr06_operators.spec (by kernel_rfl) (by kernel_rfl) (by kernel_rfl) (by kernel_rfl)) (ents_cons (ent (fn := Tryd.f22) Gr06_Decimal.Spec (by kernel_rfl) (by kernel_rfl) (by kernel_rfl) (by kernel_rfl)) (ents_nil)))
def Gr06_line.Λ : Cuts (Tp Gr06_line.rk) := cutsOf []
theorem Gr06_line.spec : Spec Tryd.prog 23 Gr06_line.pk Gr06_line.rk Gr06_line.g :=
  spec_of_body (fn := Tryd.f23) (c := bodyOf Tryd.f23) (by kernel_rfl) (by kernel_rfl) (by kernel_rfl) (by kernel_rfl) (ρ := Gr06_line.ρ) Gr06_line.hρ (Λ := Gr06_line.Λ) (fun A w0 => cuts_nil) (fun x => by kernel_rfl)

/-! ### 7 bluebell/bluebellref06.Text -/
def Gr06_Text.l518458 : Nat → D → ByteArray → Int → D → Int → ((D × ByteArray × Int) → Option (ByteArray × Int)) → Option (ByteArray × Int)
  | 0, _, _, _, _, _, _ => none
  | k + 1, v1, v7, v8, v9, v10, κ3 =>
    bif decide (v10 < (((v9.cell 2).list).length : Int)) then gd (inB v10 ((v9.cell 2).list).length) (Option.bind (α := ByteArray) (Gr06_Decimal.F ((rd ((v9.cell 2).list) v10.toNat).int)) fun r4 => gd (decide (str20.size + r4.size ≤ maxS)) (gd (decide (v7.size + (str20 ++ r4).size ≤ maxS)) (Gr06_Text.l518458 k v1 (v7 ++ (str20 ++ r4)) v8 v9 (IntKind.i64.wrap (v10 + 1)) κ3))) else κ3 (v1, v7, v8)
def Gr06_Text.l506 : Nat → D → ByteArray → Int → ((D × ByteArray) → Option (ByteArray × Int)) → Option (ByteArray × Int)
  | 0, _, _, _, _ => none
  | k + 1, v1, v7, v8, κ1 =>
    bif decide (v8 < (((v1.cell 1).list).length : Int)) then gd (inB v8 ((v1.cell 1).list).length) (bif ((rd ((v1.cell 1).list) v8.toNat).cell 1).bool then (Gr02_Quote.f (((rd ((v1.cell 1).list) v8.toNat).cell 0).str)).bind fun r3 => gd (decide (str7465787420.size + r3.1.size ≤ maxS)) (gd (decide ((str7465787420 ++ r3.1).size + str0a.size ≤ maxS)) (gd (decide (v7.size + ((str7465787420 ++ r3.1) ++ str0a).size ≤ maxS)) (Gr06_Text.l506 k v1 (v7 ++ ((str7465787420 ++ r3.1) ++ str0a)) (IntKind.i64.wrap (v8 + 1)) κ1))) else gd (decide (v7.size + str776f726473.size ≤ maxS)) (Gr06_Text.l518458 NN v1 (v7 ++ str776f726473) v8 (rd ((v1.cell 1).list) v8.toNat) 0 (fun y5 => gd (decide (y5.2.1.size + str0a.size ≤ maxS)) (Gr06_Text.l506 k y5.1 (y5.2.1 ++ str0a) (IntKind.i64.wrap (y5.2.2 + 1)) κ1)))) else κ1 (v1, v7)
def Gr06_Text.l1018 : Nat → D → ByteArray → Int → ((D × ByteArray) → Option (ByteArray × Int)) → Option (ByteArray × Int)
  | 0, _, _, _, _ => none
  | k + 1, v1, v7, v11, κ5 =>
    bif decide (v11 < (((v1.cell 3).list).length : Int)) then gd (inB v11 ((v1.cell 3).list).length) (Option.bind (α := ByteArray) (Gr06_Decimal.F (((rd ((v1.cell 3).list) v11.toNat).cell 0).int)) fun r7 => gd (decide (str656e74727920.size + r7.size ≤ maxS)) (gd (decide ((str656e74727920 ++ r7).size + str20.size ≤ maxS)) (gd (inB v11 ((v1.cell 3).list).length) (Option.bind (α := ByteArray) (Gr06_Decimal.F (((rd ((v1.cell 3).list) v11.toNat).cell 1).int)) fun r8 => gd (decide (((str656e74727920 ++ r7) ++ str20).size + r8.size ≤ maxS)) (gd (decide ((((str656e74727920 ++ r7) ++ str20) ++ r8).size + str0a.size ≤ maxS)) (gd (decide (v7.size + ((((str656e74727920 ++ r7) ++ str20) ++ r8) ++ str0a).size ≤ maxS)) (Gr06_Text.l1018 k v1 (v7 ++ ((((str656e74727920 ++ r7) ++ str20) ++ r8) ++ str0a)) (IntKind.i64.wrap (v11 + 1)) κ5))))))) else κ5 (v1, v7)
def Gr06_Text.l4090 : Nat → D → ByteArray → (List D) → Int → ((ByteArray × List D) → Option (ByteArray × Int)) → Option (ByteArray × Int)
  | 0, _, _, _, _, _ => none
  | k + 1, v1, v7, v12, v13, κ7 =>
    bif decide (v13 < (((v1.cell 2).list).length : Int)) then gd (inB v13 ((v1.cell 2).list).length) ((Gr06_line.f (rd ((v1.cell 2).list) v13.toNat)).bind fun r10 => gd (Nat.ble (v12.length + (ubytes r10).length) lim) (Gr06_Text.l4090 k v1 v7 (v12 ++ (ubytes r10)) (IntKind.i64.wrap (v13 + 1)) κ7)) else κ7 (v7, v12)
def Gr06_Text.f (a0 : D) : Option (ByteArray × Int) :=
  (Gr06_Check.f a0).bind fun r1 => bif (r1 != 0) then some (strNil, r1) else (Gr02_Quote.f ((a0.cell 0).str)).bind fun r2 => gd (decide (str636f646520.size + r2.1.size ≤ maxS)) (gd (decide ((str636f646520 ++ r2.1).size + str0a.size ≤ maxS)) (Gr06_Text.l506 NN a0 ((str636f646520 ++ r2.1) ++ str0a) 0 (fun y6 => Gr06_Text.l1018 NN y6.1 y6.2 0 (fun y9 => Gr06_Text.l4090 NN y9.1 y9.2 [] 0 (fun y11 => gd (decide (y11.1.size + (bstr y11.2).size ≤ maxS)) (gd (decide ((y11.1 ++ (bstr y11.2)).size + str656e640a.size ≤ maxS)) (some (((y11.1 ++ (bstr y11.2)) ++ str656e640a), 0))))))))
def Gr06_Text.pk : List FK := [.st 26]
def Gr06_Text.rk : List FK := [.str, .int .i64]
def Gr06_Text.g : Tp Gr06_Text.pk → Option (Tp Gr06_Text.rk) := fun x => Gr06_Text.f x
def Gr06_Text.ρ : List (Entry (Tp Gr06_Text.rk)) := [entry _ Tryd.prog 20 Gr06_Check.pk Gr06_Check.rk Gr06_Check.g, entry _ Tryd.prog 21 Gr02_Quote.pk Gr02_Quote.rk Gr02_Quote.g, entry _ Tryd.prog 22 Gr06_Decimal.pk Gr06_Decimal.rk Gr06_Decimal.F, entry _ Tryd.prog 23 Gr06_line.pk Gr06_line.rk Gr06_line.g]
theorem Gr06_Text.hρ : ∀ e ∈ Gr06_Text.ρ, EntryOk Tryd.prog e :=
  ents_cons (ent (fn := Tryd.f20) Gr06_Check.spec (by kernel_rfl) (by kernel_rfl) (by kernel_rfl) (by kernel_rfl)) (ents_cons (ent (fn := Tryd.f21) Gr02_Quote.spec (by kernel_rfl) (by kernel_rfl) (by kernel_rfl) (by kernel_rfl)) (ents_cons (ent (fn := Tryd.f22) Gr06_Decimal.Spec (by kernel_rfl) (by kernel_rfl) (by kernel_rfl) (by kernel_rfl)) (ents_cons (ent (fn := Tryd.f23) Gr06_line.spec (by kernel_rfl) (by kernel_rfl) (by kernel_rfl) (by kernel_rfl)) (ents_nil))))
def Gr06_Text.fr518458 : Fr := [(1, .bx (.st 26)), (7, .str), (8, .int .i64), (9, .bx (.st 52)), (10, .int .i64)]
def Gr06_Text.ou518458 : Outs := [(3, [(1, .bx (.st 26)), (7, .str), (8, .int .i64)])]
def Gr06_Text.T518458 (k : Nat) (x : Gr06_Text.fr518458.T) (κ : Kp (Tp Gr06_Text.rk) Gr06_Text.ou518458) : Option (Tp Gr06_Text.rk) := Gr06_Text.l518458 k x.1 x.2.1 x.2.2.1 x.2.2.2.1 x.2.2.2.2 κ.1
def Gr06_Text.fr506 : Fr := [(1, .bx (.st 26)), (7, .str), (8, .int .i64)]
def Gr06_Text.ou506 : Outs := [(1, [(1, .bx (.st 26)), (7, .str)])]
def Gr06_Text.T506 (k : Nat) (x : Gr06_Text.fr506.T) (κ : Kp (Tp Gr06_Text.rk) Gr06_Text.ou506) : Option (Tp Gr06_Text.rk) := Gr06_Text.l506 k x.1 x.2.1 x.2.2 κ.1
def Gr06_Text.fr1018 : Fr := [(1, .bx (.st 26)), (7, .str), (11, .int .i64)]
def Gr06_Text.ou1018 : Outs := [(5, [(1, .bx (.st 26)), (7, .str)])]
def Gr06_Text.T1018 (k : Nat) (x : Gr06_Text.fr1018.T) (κ : Kp (Tp Gr06_Text.rk) Gr06_Text.ou1018) : Option (Tp Gr06_Text.rk) := Gr06_Text.l1018 k x.1 x.2.1 x.2.2 κ.1
def Gr06_Text.fr4090 : Fr := [(1, .bx (.st 26)), (7, .str), (12, .own 5), (13, .int .i64)]
def Gr06_Text.ou4090 : Outs := [(7, [(7, .str), (12, .own 5)])]
def Gr06_Text.T4090 (k : Nat) (x : Gr06_Text.fr4090.T) (κ : Kp (Tp Gr06_Text.rk) Gr06_Text.ou4090) : Option (Tp Gr06_Text.rk) := Gr06_Text.l4090 k x.1 x.2.1 x.2.2.1 x.2.2.2 κ.1
def Gr06_Text.Λ0 : Cuts (Tp Gr06_Text.rk) := cutsOf []
def Gr06_Text.Λ1 : Cuts (Tp Gr06_Text.rk) := cutsOf [(518458, cut Tryd.prog Gr06_Text.fr518458 Gr06_Text.ou518458 (Gr06_Text.T518458 NN))]
def Gr06_Text.Λ2 : Cuts (Tp Gr06_Text.rk) := cutsOf [(506, cut Tryd.prog Gr06_Text.fr506 Gr06_Text.ou506 (Gr06_Text.T506 NN)), (518458, cut Tryd.prog Gr06_Text.fr518458 Gr06_Text.ou518458 (Gr06_Text.T518458 NN))]
def Gr06_Text.Λ3 : Cuts (Tp Gr06_Text.rk) := cutsOf [(1018, cut Tryd.prog Gr06_Text.fr1018 Gr06_Text.ou1018 (Gr06_Text.T1018 NN)), (506, cut Tryd.prog Gr06_Text.fr506 Gr06_Text.ou506 (Gr06_Text.T506 NN)), (518458, cut Tryd.prog Gr06_Text.fr518458 Gr06_Text.ou518458 (Gr06_Text.T518458 NN))]
def Gr06_Text.Λ : Cuts (Tp Gr06_Text.rk) := cutsOf [(4090, cut Tryd.prog Gr06_Text.fr4090 Gr06_Text.ou4090 (Gr06_Text.T4090 NN)), (1018, cut Tryd.prog Gr06_Text.fr1018 Gr06_Text.ou1018 (Gr06_Text.T1018 NN)), (506, cut Tryd.prog Gr06_Text.fr506 Gr06_Text.ou506 (Gr06_Text.T506 NN)), (518458, cut Tryd.prog Gr06_Text.fr518458 Gr06_Text.ou518458 (Gr06_Text.T518458 NN))]
theorem Gr06_Text.c518458 (A : Ks) (w0 : World) : CutOk Tryd.prog ⟨Tryd.f7.ntmps, 0, A⟩ w0 (kRet Tryd.prog Tryd.f7.results.toList Gr06_Text.rk) (bodyOf Tryd.f7) 518458 (cut Tryd.prog Gr06_Text.fr518458 Gr06_Text.ou518458 (Gr06_Text.T518458 NN)) :=
  loop_ok Gr06_Text.hρ (Λ := Gr06_Text.Λ0) (cuts_nil) (by kernel_rfl) (D := 64) (b := loopOf Tryd.f7 518458) (by kernel_rfl) (by kernel_rfl) NN (fun x κ => by kernel_rfl) (fun k x κ => by kernel_rfl)
theorem Gr06_Text.c506 (A : Ks) (w0 : World) : CutOk Tryd.prog ⟨Tryd.f7.ntmps, 0, A⟩ w0 (kRet Tryd.prog Tryd.f7.results.toList Gr06_Text.rk) (bodyOf Tryd.f7) 506 (cut Tryd.prog Gr06_Text.fr506 Gr06_Text.ou506 (Gr06_Text.T506 NN)) :=
  loop_ok Gr06_Text.hρ (Λ := Gr06_Text.Λ1) (cuts_cons (Gr06_Text.c518458 A w0) (cuts_nil)) (by kernel_rfl) (D := 64) (b := loopOf Tryd.f7 506) (by kernel_rfl) (by kernel_rfl) NN (fun x κ => by kernel_rfl) (fun k x κ => by kernel_rfl)
theorem Gr06_Text.c1018 (A : Ks) (w0 : World) : CutOk Tryd.prog ⟨Tryd.f7.ntmps, 0, A⟩ w0 (kRet Tryd.prog Tryd.f7.results.toList Gr06_Text.rk) (bodyOf Tryd.f7) 1018 (cut Tryd.prog Gr06_Text.fr1018 Gr06_Text.ou1018 (Gr06_Text.T1018 NN)) :=
  loop_ok Gr06_Text.hρ (Λ := Gr06_Text.Λ2) (cuts_cons (Gr06_Text.c506 A w0) (cuts_cons (Gr06_Text.c518458 A w0) (cuts_nil))) (by kernel_rfl) (D := 64) (b := loopOf Tryd.f7 1018) (by kernel_rfl) (by kernel_rfl) NN (fun x κ => by kernel_rfl) (fun k x κ => by kernel_rfl)
theorem Gr06_Text.c4090 (A : Ks) (w0 : World) : CutOk Tryd.prog ⟨Tryd.f7.ntmps, 0, A⟩ w0 (kRet Tryd.prog Tryd.f7.results.toList Gr06_Text.rk) (bodyOf Tryd.f7) 4090 (cut Tryd.prog Gr06_Text.fr4090 Gr06_Text.ou4090 (Gr06_Text.T4090 NN)) :=
  loop_ok Gr06_Text.hρ (Λ := Gr06_Text.Λ3) (cuts_cons (Gr06_Text.c1018 A w0) (cuts_cons (Gr06_Text.c506 A w0) (cuts_cons (Gr06_Text.c518458 A w0) (cuts_nil)))) (by kernel_rfl) (D := 64) (b := loopOf Tryd.f7 4090) (by kernel_rfl) (by kernel_rfl) NN (fun x κ => by kernel_rfl) (fun k x κ => by kernel_rfl)
theorem Gr06_Text.spec : Spec Tryd.prog 7 Gr06_Text.pk Gr06_Text.rk Gr06_Text.g :=
  spec_of_body (fn := Tryd.f7) (c := bodyOf Tryd.f7) (by kernel_rfl) (by kernel_rfl) (by kernel_rfl) (by kernel_rfl) (ρ := Gr06_Text.ρ) Gr06_Text.hρ (Λ := Gr06_Text.Λ) (fun A w0 => cuts_cons (Gr06_Text.c4090 A w0) (cuts_cons (Gr06_Text.c1018 A w0) (cuts_cons (Gr06_Text.c506 A w0) (cuts_cons (Gr06_Text.c518458 A w0) (cuts_nil))))) (fun x => by kernel_rfl)

/-! ### 3 bluebell/bluebelllaw06.OcodeTexts -/
def Gw06_OcodeTexts.f (a0 : D) : Option Bool :=
  (Gw06_heavy.f a0).bind fun r1 => bif r1 then (Gw06_awake.f).bind fun r2 => some r2 else (Gocode_Text.f a0).bind fun r3 => (Gr06_Text.f a0).bind fun r4 => (bif ((r3.1.toList == r4.1.toList) && (r3.2 == r4.2)) then Gw06_awake.f else some false).bind fun r5 => some (((r3.1.toList == r4.1.toList) && (r3.2 == r4.2)) && r5)
def Gw06_OcodeTexts.pk : List FK := [.st 26]
def Gw06_OcodeTexts.rk : List FK := [.bool]
def Gw06_OcodeTexts.g : Tp Gw06_OcodeTexts.pk → Option (Tp Gw06_OcodeTexts.rk) := fun x => Gw06_OcodeTexts.f x
def Gw06_OcodeTexts.ρ : List (Entry (Tp Gw06_OcodeTexts.rk)) := [entry _ Tryd.prog 4 Gw06_heavy.pk Gw06_heavy.rk Gw06_heavy.g, entry _ Tryd.prog 5 Gw06_awake.pk Gw06_awake.rk Gw06_awake.g, entry _ Tryd.prog 6 Gocode_Text.pk Gocode_Text.rk Gocode_Text.g, entry _ Tryd.prog 7 Gr06_Text.pk Gr06_Text.rk Gr06_Text.g]
theorem Gw06_OcodeTexts.hρ : ∀ e ∈ Gw06_OcodeTexts.ρ, EntryOk Tryd.prog e :=
  ents_cons (ent (fn := Tryd.f4) Gw06_heavy.spec (by kernel_rfl) (by kernel_rfl) (by kernel_rfl) (by kernel_rfl)) (ents_cons (ent (fn := Tryd.f5) Gw06_awake.spec (by kernel_rfl) (by kernel_rfl) (by kernel_rfl) (by kernel_rfl)) (ents_cons (ent (fn := Tryd.f6) Gocode_Text.spec (by kernel_rfl) (by kernel_rfl) (by kernel_rfl) (by kernel_rfl)) (ents_cons (ent (fn := Tryd.f7) Gr06_Text.spec (by kernel_rfl) (by kernel_rfl) (by kernel_rfl) (by kernel_rfl)) (ents_nil))))
def Gw06_OcodeTexts.Λ : Cuts (Tp Gw06_OcodeTexts.rk) := cutsOf []
theorem Gw06_OcodeTexts.spec : Spec Tryd.prog 3 Gw06_OcodeTexts.pk Gw06_OcodeTexts.rk Gw06_OcodeTexts.g :=
  spec_of_body (fn := Tryd.f3) (c := bodyOf Tryd.f3) (by kernel_rfl) (by kernel_rfl) (by kernel_rfl) (by kernel_rfl) (ρ := Gw06_OcodeTexts.ρ) Gw06_OcodeTexts.hρ (Λ := Gw06_OcodeTexts.Λ) (fun A w0 => cuts_nil) (fun x => by kernel_rfl)
end
end Go.Pv
