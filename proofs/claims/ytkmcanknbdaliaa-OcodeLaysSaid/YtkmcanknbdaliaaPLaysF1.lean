/- The program's functions as functions of data, and their contracts. -/
import Derived.Test.YtkmcanknbdaliaaPLaysB
import Derived.Test.YtkmcanknbdaliaaPLaysHPvH1
import Derived.Test.YtkmcanknbdaliaaProg
set_option linter.unusedVariables false
set_option linter.unusedSimpArgs false
set_option maxRecDepth 100000
namespace Go.Pv
noncomputable section
open Go.Proofs
def str6e756d : ByteArray := ⟨#[110, 117, 109]⟩
def str6c6f63616c : ByteArray := ⟨#[108, 111, 99, 97, 108]⟩
def str7075746c : ByteArray := ⟨#[112, 117, 116, 108]⟩
def str616464726c : ByteArray := ⟨#[97, 100, 100, 114, 108]⟩
def str676c6f62616c : ByteArray := ⟨#[103, 108, 111, 98, 97, 108]⟩
def str70757467 : ByteArray := ⟨#[112, 117, 116, 103]⟩
def str6164647267 : ByteArray := ⟨#[97, 100, 100, 114, 103]⟩
def str737461746963 : ByteArray := ⟨#[115, 116, 97, 116, 105, 99]⟩
def str70757473 : ByteArray := ⟨#[112, 117, 116, 115]⟩
def str6164647273 : ByteArray := ⟨#[97, 100, 100, 114, 115]⟩
def str70726f63 : ByteArray := ⟨#[112, 114, 111, 99]⟩
def str6c6f6164 : ByteArray := ⟨#[108, 111, 97, 100]⟩
def str73746f7265 : ByteArray := ⟨#[115, 116, 111, 114, 101]⟩
def str67657462 : ByteArray := ⟨#[103, 101, 116, 98]⟩
def str70757462 : ByteArray := ⟨#[112, 117, 116, 98]⟩
def str62696e : ByteArray := ⟨#[98, 105, 110]⟩
def str756e : ByteArray := ⟨#[117, 110]⟩
def str737461636b : ByteArray := ⟨#[115, 116, 97, 99, 107]⟩
def str6c6162656c : ByteArray := ⟨#[108, 97, 98, 101, 108]⟩
def str6a756d70 : ByteArray := ⟨#[106, 117, 109, 112]⟩
def str74727565 : ByteArray := ⟨#[116, 114, 117, 101]⟩
def str66616c7365 : ByteArray := ⟨#[102, 97, 108, 115, 101]⟩
def str63616c6c : ByteArray := ⟨#[99, 97, 108, 108]⟩
def str656e746572 : ByteArray := ⟨#[101, 110, 116, 101, 114]⟩
def str72657475726e : ByteArray := ⟨#[114, 101, 116, 117, 114, 110]⟩
def str6261636b : ByteArray := ⟨#[98, 97, 99, 107]⟩
def str726573756c74 : ByteArray := ⟨#[114, 101, 115, 117, 108, 116]⟩
def str74616b65 : ByteArray := ⟨#[116, 97, 107, 101]⟩
def str737769746368 : ByteArray := ⟨#[115, 119, 105, 116, 99, 104]⟩
def str63617365 : ByteArray := ⟨#[99, 97, 115, 101]⟩
def strNil : ByteArray := ⟨#[]⟩
def str22 : ByteArray := ⟨#[34]⟩
def str2a6e : ByteArray := ⟨#[42, 110]⟩
def str2a74 : ByteArray := ⟨#[42, 116]⟩
def str2a : ByteArray := ⟨#[42]⟩

/-! ### 34 bluebell/bluebellref00.HeavyCode -/
def Gr00_HeavyCode.l58 : Nat → Int → D → Int → Int → ((Int × D × Int) → Option Bool) → Option Bool
  | 0, _, _, _, _, _ => none
  | k + 1, v1, v2, v5, v6, κ1 =>
    bif ((decide (v6 < (((v2.cell 1).list).length : Int))) && (decide (v5 ≤ 2000))) then gd (inB v6 ((v2.cell 1).list).length) (gd (inB v6 ((v2.cell 1).list).length) (Gr00_HeavyCode.l58 k v1 v2 (IntKind.i64.wrap ((IntKind.i64.wrap ((IntKind.i64.wrap (v5 + 1)) + ((((rd ((v2.cell 1).list) v6.toNat).cell 0).str).size : Int))) + ((((rd ((v2.cell 1).list) v6.toNat).cell 2).list).length : Int))) (IntKind.i64.wrap (v6 + 1)) κ1)) else κ1 (v1, v2, v5)
def Gr00_HeavyCode.f (a0 : D) (a1 : Int) : Option Bool :=
  Gr00_HeavyCode.l58 NN a1 a0 (((a0.cell 0).str).size : Int) 0 (fun y1 => some (((decide ((((y1.2.1.cell 2).list).length : Int) > y1.1)) || (decide ((((y1.2.1.cell 3).list).length : Int) > 400))) || (decide (y1.2.2 > 2000))))
def Gr00_HeavyCode.pk : List FK := [.st 26, .int .i64]
def Gr00_HeavyCode.rk : List FK := [.bool]
def Gr00_HeavyCode.g : Tp Gr00_HeavyCode.pk → Option (Tp Gr00_HeavyCode.rk) := fun x => Gr00_HeavyCode.f x.1 x.2
def Gr00_HeavyCode.ρ : List (Entry (Tp Gr00_HeavyCode.rk)) := []
theorem Gr00_HeavyCode.hρ : ∀ e ∈ Gr00_HeavyCode.ρ, EntryOk Try.prog e :=
  ents_nil
def Gr00_HeavyCode.fr58 : Fr := [(1, .int .i64), (2, .bx (.st 26)), (5, .int .i64), (6, .int .i64)]
def Gr00_HeavyCode.ou58 : Outs := [(1, [(1, .int .i64), (2, .bx (.st 26)), (5, .int .i64)])]
def Gr00_HeavyCode.T58 (k : Nat) (x : Gr00_HeavyCode.fr58.T) (κ : Kp (Tp Gr00_HeavyCode.rk) Gr00_HeavyCode.ou58) : Option (Tp Gr00_HeavyCode.rk) := Gr00_HeavyCode.l58 k x.1 x.2.1 x.2.2.1 x.2.2.2 κ.1
def Gr00_HeavyCode.Λ0 : Cuts (Tp Gr00_HeavyCode.rk) := cutsOf []
def Gr00_HeavyCode.Λ : Cuts (Tp Gr00_HeavyCode.rk) := cutsOf [(58, cut Try.prog Gr00_HeavyCode.fr58 Gr00_HeavyCode.ou58 (Gr00_HeavyCode.T58 NN))]
theorem Gr00_HeavyCode.c58 (A : Nat → Prop) (w0 : World) : CutOk Try.prog ⟨Try.f34.ntmps, A⟩ w0 (kRet Try.prog Try.f34.results.toList Gr00_HeavyCode.rk) (bodyOf Try.f34) 58 (cut Try.prog Gr00_HeavyCode.fr58 Gr00_HeavyCode.ou58 (Gr00_HeavyCode.T58 NN)) :=
  loop_ok Gr00_HeavyCode.hρ (Λ := Gr00_HeavyCode.Λ0) (cuts_nil) (by kernel_rfl) (D := 64) (b := loopOf Try.f34 58) (by kernel_rfl) (by kernel_rfl) NN (fun x κ => by kernel_rfl) (fun k x κ => by kernel_rfl)
theorem Gr00_HeavyCode.spec : Spec Try.prog 34 Gr00_HeavyCode.pk Gr00_HeavyCode.rk Gr00_HeavyCode.g :=
  spec_of_body (fn := Try.f34) (c := bodyOf Try.f34) (by kernel_rfl) (by kernel_rfl) (by kernel_rfl) (by kernel_rfl) (ρ := Gr00_HeavyCode.ρ) Gr00_HeavyCode.hρ (Λ := Gr00_HeavyCode.Λ) (fun A w0 => cuts_cons (Gr00_HeavyCode.c58 A w0) (cuts_nil)) (fun x => by kernel_rfl)

/-! ### 12 bluebell/bluebelllaw06.heavy -/
def Gw06_heavy.f (a0 : D) : Option Bool :=
  (Gr00_HeavyCode.f a0 40100).bind fun r1 => some r1
def Gw06_heavy.pk : List FK := [.st 26]
def Gw06_heavy.rk : List FK := [.bool]
def Gw06_heavy.g : Tp Gw06_heavy.pk → Option (Tp Gw06_heavy.rk) := fun x => Gw06_heavy.f x
def Gw06_heavy.ρ : List (Entry (Tp Gw06_heavy.rk)) := [entry _ Try.prog 34 Gr00_HeavyCode.pk Gr00_HeavyCode.rk Gr00_HeavyCode.g]
theorem Gw06_heavy.hρ : ∀ e ∈ Gw06_heavy.ρ, EntryOk Try.prog e :=
  ents_cons (ent (fn := Try.f34) Gr00_HeavyCode.spec (by kernel_rfl) (by kernel_rfl) (by kernel_rfl) (by kernel_rfl)) (ents_nil)
def Gw06_heavy.Λ : Cuts (Tp Gw06_heavy.rk) := cutsOf []
theorem Gw06_heavy.spec : Spec Try.prog 12 Gw06_heavy.pk Gw06_heavy.rk Gw06_heavy.g :=
  spec_of_body (fn := Try.f12) (c := bodyOf Try.f12) (by kernel_rfl) (by kernel_rfl) (by kernel_rfl) (by kernel_rfl) (ρ := Gw06_heavy.ρ) Gw06_heavy.hρ (Λ := Gw06_heavy.Λ) (fun A w0 => cuts_nil) (fun x => by kernel_rfl)

/-! ### 39 bluebell/ocode.large -/
def Gocode_large.l122 : Nat → Int → (List D) → Int → Int → (Int → Option Bool) → Option Bool
  | 0, _, _, _, _, _ => none
  | k + 1, v3, v27, v28, v29, κ1 =>
    bif decide (v29 < v28) then gd (inB v29 v27.length) (bif ((rd v27 v29.toNat).cell 1).bool then gd (!(2 == 0)) (Gocode_large.l122 k (IntKind.i64.wrap ((IntKind.i64.wrap (v3 + ((((rd v27 v29.toNat).cell 2).list).length : Int))) + (IntKind.i64.wrap ((IntKind.i64.wrap (((((rd v27 v29.toNat).cell 0).str).size : Int) + 2)).tdiv 2)))) v27 v28 (IntKind.i64.wrap (v29 + 1)) κ1) else Gocode_large.l122 k (IntKind.i64.wrap (v3 + ((((rd v27 v29.toNat).cell 2).list).length : Int))) v27 v28 (IntKind.i64.wrap (v29 + 1)) κ1) else κ1 v3
def Gocode_large.f (a0 : D) : Option Bool :=
  bif ((((decide ((((a0.cell 2).list).length : Int) > 40000)) || (decide ((((a0.cell 1).list).length : Int) > 2000))) || (decide (((a0.cell 4).int) > 200))) || (decide (((a0.cell 5).int) > 20000))) then some true else Gocode_large.l122 NN 0 ((a0.cell 1).list) (((a0.cell 1).list).length : Int) 0 (fun y1 => some (decide (y1 > 7800)))
def Gocode_large.pk : List FK := [.st 26]
def Gocode_large.rk : List FK := [.bool]
def Gocode_large.g : Tp Gocode_large.pk → Option (Tp Gocode_large.rk) := fun x => Gocode_large.f x
def Gocode_large.ρ : List (Entry (Tp Gocode_large.rk)) := []
theorem Gocode_large.hρ : ∀ e ∈ Gocode_large.ρ, EntryOk Try.prog e :=
  ents_nil
def Gocode_large.fr122 : Fr := [(3, .int .i64), (27, .sl 47), (28, .int .i64), (29, .int .i64)]
def Gocode_large.ou122 : Outs := [(1, [(3, .int .i64)])]
def Gocode_large.T122 (k : Nat) (x : Gocode_large.fr122.T) (κ : Kp (Tp Gocode_large.rk) Gocode_large.ou122) : Option (Tp Gocode_large.rk) := Gocode_large.l122 k x.1 x.2.1 x.2.2.1 x.2.2.2 κ.1
def Gocode_large.Λ0 : Cuts (Tp Gocode_large.rk) := cutsOf []
def Gocode_large.Λ : Cuts (Tp Gocode_large.rk) := cutsOf [(122, cut Try.prog Gocode_large.fr122 Gocode_large.ou122 (Gocode_large.T122 NN))]
theorem Gocode_large.c122 (A : Nat → Prop) (w0 : World) : CutOk Try.prog ⟨Try.f39.ntmps, A⟩ w0 (kRet Try.prog Try.f39.results.toList Gocode_large.rk) (bodyOf Try.f39) 122 (cut Try.prog Gocode_large.fr122 Gocode_large.ou122 (Gocode_large.T122 NN)) :=
  loop_ok Gocode_large.hρ (Λ := Gocode_large.Λ0) (cuts_nil) (by kernel_rfl) (D := 64) (b := loopOf Try.f39 122) (by kernel_rfl) (by kernel_rfl) NN (fun x κ => by kernel_rfl) (fun k x κ => by kernel_rfl)
theorem Gocode_large.spec : Spec Try.prog 39 Gocode_large.pk Gocode_large.rk Gocode_large.g :=
  spec_of_body (fn := Try.f39) (c := bodyOf Try.f39) (by kernel_rfl) (by kernel_rfl) (by kernel_rfl) (by kernel_rfl) (ρ := Gocode_large.ρ) Gocode_large.hρ (Λ := Gocode_large.Λ) (fun A w0 => cuts_cons (Gocode_large.c122 A w0) (cuts_nil)) (fun x => by kernel_rfl)

/-! ### 36 bluebell/ocode.kinds -/
def Gocode_kinds.f : Option (List D) :=
  gd (Nat.beq (([.r [.s ByteArray.empty, .i 0, .i 0, .i 0], .r [.s str6e756d, .i 1, .i 0, .i 1], .r [.s str6c6f63616c, .i 2, .i 0, .i 1], .r [.s str7075746c, .i 2, .i 1, .i 0], .r [.s str616464726c, .i 2, .i 0, .i 1], .r [.s str676c6f62616c, .i 3, .i 0, .i 1], .r [.s str70757467, .i 3, .i 1, .i 0], .r [.s str6164647267, .i 3, .i 0, .i 1], .r [.s str737461746963, .i 4, .i 0, .i 1], .r [.s str70757473, .i 4, .i 1, .i 0], .r [.s str6164647273, .i 4, .i 0, .i 1], .r [.s str70726f63, .i 5, .i 0, .i 1], .r [.s str6c6f6164, .i 0, .i 1, .i 1], .r [.s str73746f7265, .i 0, .i 2, .i 0], .r [.s str67657462, .i 0, .i 2, .i 1], .r [.s str70757462, .i 0, .i 3, .i 0], .r [.s str62696e, .i 7, .i 2, .i 1], .r [.s str756e, .i 8, .i 1, .i 1], .r [.s str737461636b, .i 2, .i 0, .i 0], .r [.s str6c6162656c, .i 6, .i 0, .i 0], .r [.s str6a756d70, .i 6, .i 0, .i 0], .r [.s str74727565, .i 6, .i 1, .i 0], .r [.s str66616c7365, .i 6, .i 1, .i 0], .r [.s str63616c6c, .i 2, .i 0, .i 0], .r [.s str656e746572, .i 5, .i 0, .i 0], .r [.s str72657475726e, .i 0, .i 1, .i 0], .r [.s str6261636b, .i 0, .i 0, .i 0], .r [.s str726573756c74, .i 6, .i 1, .i 0], .r [.s str74616b65, .i 2, .i 0, .i 0], .r [.s str737769746368, .i 6, .i 1, .i 0], .r [.s str63617365, .i 1, .i 0, .i 0]]) : List D).length ((List.replicate 31 (.r [.s ByteArray.empty, .i 0, .i 0, .i 0] : D)) : List D).length && Nat.beq (([.r [.s ByteArray.empty, .i 0, .i 0, .i 0], .r [.s str6e756d, .i 1, .i 0, .i 1], .r [.s str6c6f63616c, .i 2, .i 0, .i 1], .r [.s str7075746c, .i 2, .i 1, .i 0], .r [.s str616464726c, .i 2, .i 0, .i 1], .r [.s str676c6f62616c, .i 3, .i 0, .i 1], .r [.s str70757467, .i 3, .i 1, .i 0], .r [.s str6164647267, .i 3, .i 0, .i 1], .r [.s str737461746963, .i 4, .i 0, .i 1], .r [.s str70757473, .i 4, .i 1, .i 0], .r [.s str6164647273, .i 4, .i 0, .i 1], .r [.s str70726f63, .i 5, .i 0, .i 1], .r [.s str6c6f6164, .i 0, .i 1, .i 1], .r [.s str73746f7265, .i 0, .i 2, .i 0], .r [.s str67657462, .i 0, .i 2, .i 1], .r [.s str70757462, .i 0, .i 3, .i 0], .r [.s str62696e, .i 7, .i 2, .i 1], .r [.s str756e, .i 8, .i 1, .i 1], .r [.s str737461636b, .i 2, .i 0, .i 0], .r [.s str6c6162656c, .i 6, .i 0, .i 0], .r [.s str6a756d70, .i 6, .i 0, .i 0], .r [.s str74727565, .i 6, .i 1, .i 0], .r [.s str66616c7365, .i 6, .i 1, .i 0], .r [.s str63616c6c, .i 2, .i 0, .i 0], .r [.s str656e746572, .i 5, .i 0, .i 0], .r [.s str72657475726e, .i 0, .i 1, .i 0], .r [.s str6261636b, .i 0, .i 0, .i 0], .r [.s str726573756c74, .i 6, .i 1, .i 0], .r [.s str74616b65, .i 2, .i 0, .i 0], .r [.s str737769746368, .i 6, .i 1, .i 0], .r [.s str63617365, .i 1, .i 0, .i 0]]) : List D).length 31) (some ([.r [.s ByteArray.empty, .i 0, .i 0, .i 0], .r [.s str6e756d, .i 1, .i 0, .i 1], .r [.s str6c6f63616c, .i 2, .i 0, .i 1], .r [.s str7075746c, .i 2, .i 1, .i 0], .r [.s str616464726c, .i 2, .i 0, .i 1], .r [.s str676c6f62616c, .i 3, .i 0, .i 1], .r [.s str70757467, .i 3, .i 1, .i 0], .r [.s str6164647267, .i 3, .i 0, .i 1], .r [.s str737461746963, .i 4, .i 0, .i 1], .r [.s str70757473, .i 4, .i 1, .i 0], .r [.s str6164647273, .i 4, .i 0, .i 1], .r [.s str70726f63, .i 5, .i 0, .i 1], .r [.s str6c6f6164, .i 0, .i 1, .i 1], .r [.s str73746f7265, .i 0, .i 2, .i 0], .r [.s str67657462, .i 0, .i 2, .i 1], .r [.s str70757462, .i 0, .i 3, .i 0], .r [.s str62696e, .i 7, .i 2, .i 1], .r [.s str756e, .i 8, .i 1, .i 1], .r [.s str737461636b, .i 2, .i 0, .i 0], .r [.s str6c6162656c, .i 6, .i 0, .i 0], .r [.s str6a756d70, .i 6, .i 0, .i 0], .r [.s str74727565, .i 6, .i 1, .i 0], .r [.s str66616c7365, .i 6, .i 1, .i 0], .r [.s str63616c6c, .i 2, .i 0, .i 0], .r [.s str656e746572, .i 5, .i 0, .i 0], .r [.s str72657475726e, .i 0, .i 1, .i 0], .r [.s str6261636b, .i 0, .i 0, .i 0], .r [.s str726573756c74, .i 6, .i 1, .i 0], .r [.s str74616b65, .i 2, .i 0, .i 0], .r [.s str737769746368, .i 6, .i 1, .i 0], .r [.s str63617365, .i 1, .i 0, .i 0]]))
def Gocode_kinds.pk : List FK := []
def Gocode_kinds.rk : List FK := [.parr 53]
def Gocode_kinds.g : Tp Gocode_kinds.pk → Option (Tp Gocode_kinds.rk) := fun _ => Gocode_kinds.f
def Gocode_kinds.ρ : List (Entry (Tp Gocode_kinds.rk)) := []
theorem Gocode_kinds.hρ : ∀ e ∈ Gocode_kinds.ρ, EntryOk Try.prog e :=
  ents_nil
def Gocode_kinds.Λ : Cuts (Tp Gocode_kinds.rk) := cutsOf []
theorem Gocode_kinds.spec : Spec Try.prog 36 Gocode_kinds.pk Gocode_kinds.rk Gocode_kinds.g :=
  spec_of_body (fn := Try.f36) (c := bodyOf Try.f36) (by kernel_rfl) (by kernel_rfl) (by kernel_rfl) (by kernel_rfl) (ρ := Gocode_kinds.ρ) Gocode_kinds.hρ (Λ := Gocode_kinds.Λ) (fun A w0 => cuts_nil) (fun x => by kernel_rfl)

/-! ### 88 bluebell/ocode.in -/
def Gocode_in.f (a0 : Int) (a1 : Int) (a2 : Int) : Option Bool :=
  some ((decide (a0 ≥ a1)) && (decide (a0 ≤ a2)))
def Gocode_in.pk : List FK := [.int .i64, .int .i64, .int .i64]
def Gocode_in.rk : List FK := [.bool]
def Gocode_in.g : Tp Gocode_in.pk → Option (Tp Gocode_in.rk) := fun x => Gocode_in.f x.1 x.2.1 x.2.2
def Gocode_in.ρ : List (Entry (Tp Gocode_in.rk)) := []
theorem Gocode_in.hρ : ∀ e ∈ Gocode_in.ρ, EntryOk Try.prog e :=
  ents_nil
def Gocode_in.Λ : Cuts (Tp Gocode_in.rk) := cutsOf []
theorem Gocode_in.spec : Spec Try.prog 88 Gocode_in.pk Gocode_in.rk Gocode_in.g :=
  spec_of_body (fn := Try.f88) (c := bodyOf Try.f88) (by kernel_rfl) (by kernel_rfl) (by kernel_rfl) (by kernel_rfl) (ρ := Gocode_in.ρ) Gocode_in.hρ (Λ := Gocode_in.Λ) (fun A w0 => cuts_nil) (fun x => by kernel_rfl)

/-! ### 87 bluebell/ocode.wide -/
def Gocode_wide.f (a0 : Int) : Option Bool :=
  (Gocode_in.f a0 (-2147483648) 2147483647).bind fun r1 => some r1
def Gocode_wide.pk : List FK := [.int .i64]
def Gocode_wide.rk : List FK := [.bool]
def Gocode_wide.g : Tp Gocode_wide.pk → Option (Tp Gocode_wide.rk) := fun x => Gocode_wide.f x
def Gocode_wide.ρ : List (Entry (Tp Gocode_wide.rk)) := [entry _ Try.prog 88 Gocode_in.pk Gocode_in.rk Gocode_in.g]
theorem Gocode_wide.hρ : ∀ e ∈ Gocode_wide.ρ, EntryOk Try.prog e :=
  ents_cons (ent (fn := Try.f88) Gocode_in.spec (by kernel_rfl) (by kernel_rfl) (by kernel_rfl) (by kernel_rfl)) (ents_nil)
def Gocode_wide.Λ : Cuts (Tp Gocode_wide.rk) := cutsOf []
theorem Gocode_wide.spec : Spec Try.prog 87 Gocode_wide.pk Gocode_wide.rk Gocode_wide.g :=
  spec_of_body (fn := Try.f87) (c := bodyOf Try.f87) (by kernel_rfl) (by kernel_rfl) (by kernel_rfl) (by kernel_rfl) (ρ := Gocode_wide.ρ) Gocode_wide.hρ (Λ := Gocode_wide.Λ) (fun A w0 => cuts_nil) (fun x => by kernel_rfl)

/-! ### 63 bluebell/ocode.numbers -/
def Gocode_numbers.p15 (v3 : D) (v4 : D) (v7 : Bool) : Option Bool :=
  bif (((v3.cell 0).int) == 24) then (bif v7 then Gocode_in.f ((v3.cell 2).int) 0 8 else some false).bind fun r1 => some (v7 && r1) else bif (((v3.cell 0).int) == 29) then (bif v7 then Gocode_in.f ((v3.cell 2).int) 0 1000 else some false).bind fun r2 => some (v7 && r2) else bif (((v3.cell 0).int) == 30) then (bif v7 then Gocode_in.f ((v3.cell 2).int) 1 ((v4.cell 5).int) else some false).bind fun r3 => some (v7 && r3) else some (v7 && (((v3.cell 2).int) == 0))
def Gocode_numbers.f (a0 : D) (a1 : D) (a2 : D) : Option Bool :=
  bif (((a2.cell 1).int) == 0) then Gocode_numbers.p15 a0 a1 (((a0.cell 1).int) == 0) else bif (((a2.cell 1).int) == 1) then (Gocode_wide.f ((a0.cell 1).int)).bind fun r4 => Gocode_numbers.p15 a0 a1 r4 else bif (((a2.cell 1).int) == 2) then (Gocode_in.f ((a0.cell 1).int) 0 4000).bind fun r5 => Gocode_numbers.p15 a0 a1 r5 else bif (((a2.cell 1).int) == 3) then (Gocode_in.f ((a0.cell 1).int) 0 199).bind fun r6 => Gocode_numbers.p15 a0 a1 r6 else bif (((a2.cell 1).int) == 4) then (Gocode_in.f ((a0.cell 1).int) 0 (IntKind.i64.wrap ((((a1.cell 1).list).length : Int) - 1))).bind fun r7 => Gocode_numbers.p15 a0 a1 r7 else bif (((a2.cell 1).int) == 5) then (Gocode_in.f ((a0.cell 1).int) 1 ((a1.cell 4).int)).bind fun r8 => Gocode_numbers.p15 a0 a1 r8 else bif (((a2.cell 1).int) == 6) then (Gocode_in.f ((a0.cell 1).int) 1 ((a1.cell 5).int)).bind fun r9 => Gocode_numbers.p15 a0 a1 r9 else bif (((a2.cell 1).int) == 7) then (Gocode_in.f ((a0.cell 1).int) 1 17).bind fun r10 => Gocode_numbers.p15 a0 a1 r10 else bif (((a2.cell 1).int) == 8) then Gocode_numbers.p15 a0 a1 ((((a0.cell 1).int) == 18) || (((a0.cell 1).int) == 19)) else Gocode_numbers.p15 a0 a1 false
def Gocode_numbers.pk : List FK := [.st 35, .st 26, .st 53]
def Gocode_numbers.rk : List FK := [.bool]
def Gocode_numbers.g : Tp Gocode_numbers.pk → Option (Tp Gocode_numbers.rk) := fun x => Gocode_numbers.f x.1 x.2.1 x.2.2
def Gocode_numbers.ρ : List (Entry (Tp Gocode_numbers.rk)) := [entry _ Try.prog 88 Gocode_in.pk Gocode_in.rk Gocode_in.g, entry _ Try.prog 87 Gocode_wide.pk Gocode_wide.rk Gocode_wide.g]
theorem Gocode_numbers.hρ : ∀ e ∈ Gocode_numbers.ρ, EntryOk Try.prog e :=
  ents_cons (ent (fn := Try.f88) Gocode_in.spec (by kernel_rfl) (by kernel_rfl) (by kernel_rfl) (by kernel_rfl)) (ents_cons (ent (fn := Try.f87) Gocode_wide.spec (by kernel_rfl) (by kernel_rfl) (by kernel_rfl) (by kernel_rfl)) (ents_nil))
def Gocode_numbers.fr15 : Fr := [(3, .bx (.st 35)), (4, .bx (.st 26)), (7, .bool)]
def Gocode_numbers.ou15 : Outs := []
def Gocode_numbers.T15 (x : Gocode_numbers.fr15.T) (κ : Kp (Tp Gocode_numbers.rk) Gocode_numbers.ou15) : Option (Tp Gocode_numbers.rk) := Gocode_numbers.p15 x.1 x.2.1 x.2.2
def Gocode_numbers.Λ0 : Cuts (Tp Gocode_numbers.rk) := cutsOf []
def Gocode_numbers.Λ : Cuts (Tp Gocode_numbers.rk) := cutsOf [(15, cut Try.prog Gocode_numbers.fr15 Gocode_numbers.ou15 (Gocode_numbers.T15))]
theorem Gocode_numbers.c15 (A : Nat → Prop) (w0 : World) : CutOk Try.prog ⟨Try.f63.ntmps, A⟩ w0 (kRet Try.prog Try.f63.results.toList Gocode_numbers.rk) (bodyOf Try.f63) 15 (cut Try.prog Gocode_numbers.fr15 Gocode_numbers.ou15 (Gocode_numbers.T15)) :=
  cut_ok Gocode_numbers.hρ (Λ := Gocode_numbers.Λ0) (cuts_nil) (by kernel_rfl) (by kernel_rfl) (D := 64) (c := nodeOf Try.f63 15) (by kernel_rfl) (by kernel_rfl) (fun x κ => by kernel_rfl)
theorem Gocode_numbers.spec : Spec Try.prog 63 Gocode_numbers.pk Gocode_numbers.rk Gocode_numbers.g :=
  spec_of_body (fn := Try.f63) (c := bodyOf Try.f63) (by kernel_rfl) (by kernel_rfl) (by kernel_rfl) (by kernel_rfl) (ρ := Gocode_numbers.ρ) Gocode_numbers.hρ (Λ := Gocode_numbers.Λ) (fun A w0 => cuts_cons (Gocode_numbers.c15 A w0) (cuts_nil)) (fun x => by kernel_rfl)

/-! ### 64 bluebell/ocode.places -/
def Gocode_places.l122 : Nat → D → (List D) → (List D) → Int → Int → (List D) → Int → Int → ((D × List D × List D × Int × Int) → Option (List D × List D × Bool)) → Option (List D × List D × Bool)
  | 0, _, _, _, _, _, _, _, _, _ => none
  | k + 1, v1, v2, v3, v5, v6, v18, v19, v20, κ1 =>
    bif decide (v20 < v19) then gd (inB v20 v18.length) (bif ((((rd v18 v20.toNat).cell 0).int) == 24) then bif ((((rd v18 v20.toNat).cell 1).int) != (IntKind.i64.wrap (v5 + 1))) then some ([], [], false) else Gocode_places.l122 k v1 v2 v3 (IntKind.i64.wrap (v5 + 1)) v6 v18 v19 (IntKind.i64.wrap (v20 + 1)) κ1 else bif ((((rd v18 v20.toNat).cell 0).int) == 19) then gd (inB (((rd v18 v20.toNat).cell 1).int) v3.length) (gd (Nat.blt (((rd v18 v20.toNat).cell 1).int).toNat v3.length) (bif ((((rd v3 (((rd v18 v20.toNat).cell 1).int).toNat).int) != 0) || (v5 == 0)) then some ([], [], false) else gd (inB (((rd v18 v20.toNat).cell 1).int) v2.length) (gd (Nat.blt (((rd v18 v20.toNat).cell 1).int).toNat v2.length) (gd (inB (((rd v18 v20.toNat).cell 1).int) v3.length) (gd (Nat.blt (((rd v18 v20.toNat).cell 1).int).toNat v3.length) (Gocode_places.l122 k v1 (v2.set (((rd v18 v20.toNat).cell 1).int).toNat (.i v20)) (v3.set (((rd v18 v20.toNat).cell 1).int).toNat (.i v5)) v5 (if (((rd v18 v20.toNat).cell 1).int) > v6 then (((rd v18 v20.toNat).cell 1).int) else v6) v18 v19 (IntKind.i64.wrap (v20 + 1)) κ1)))))) else Gocode_places.l122 k v1 v2 v3 v5 v6 v18 v19 (IntKind.i64.wrap (v20 + 1)) κ1) else κ1 (v1, v2, v3, v5, v6)
def Gocode_places.f (a0 : D) : Option (List D × List D × Bool) :=
  gd (decide (0 ≤ (IntKind.i64.wrap (((a0.cell 5).int) + 1))) && decide ((IntKind.i64.wrap (((a0.cell 5).int) + 1)) ≤ (lim : Int))) (gd (decide (0 ≤ (IntKind.i64.wrap (((a0.cell 5).int) + 1))) && decide ((IntKind.i64.wrap (((a0.cell 5).int) + 1)) ≤ (lim : Int))) (Gocode_places.l122 NN a0 (List.replicate (IntKind.i64.wrap (((a0.cell 5).int) + 1)).toNat (.i 0 : D)) (List.replicate (IntKind.i64.wrap (((a0.cell 5).int) + 1)).toNat (.i 0 : D)) 0 0 ((a0.cell 2).list) (((a0.cell 2).list).length : Int) 0 (fun y1 => some (y1.2.1, y1.2.2.1, ((y1.2.2.2.1 == ((y1.1.cell 4).int)) && (y1.2.2.2.2 == ((y1.1.cell 5).int)))))))
def Gocode_places.pk : List FK := [.st 26]
def Gocode_places.rk : List FK := [.own 3, .own 3, .bool]
def Gocode_places.g : Tp Gocode_places.pk → Option (Tp Gocode_places.rk) := fun x => Gocode_places.f x
def Gocode_places.ρ : List (Entry (Tp Gocode_places.rk)) := []
theorem Gocode_places.hρ : ∀ e ∈ Gocode_places.ρ, EntryOk Try.prog e :=
  ents_nil
def Gocode_places.fr122 : Fr := [(1, .bx (.st 26)), (2, .own 3), (3, .own 3), (5, .int .i64), (6, .int .i64), (18, .sl 35), (19, .int .i64), (20, .int .i64)]
def Gocode_places.ou122 : Outs := [(1, [(1, .bx (.st 26)), (2, .own 3), (3, .own 3), (5, .int .i64), (6, .int .i64)])]
def Gocode_places.T122 (k : Nat) (x : Gocode_places.fr122.T) (κ : Kp (Tp Gocode_places.rk) Gocode_places.ou122) : Option (Tp Gocode_places.rk) := Gocode_places.l122 k x.1 x.2.1 x.2.2.1 x.2.2.2.1 x.2.2.2.2.1 x.2.2.2.2.2.1 x.2.2.2.2.2.2.1 x.2.2.2.2.2.2.2 κ.1
def Gocode_places.Λ0 : Cuts (Tp Gocode_places.rk) := cutsOf []
def Gocode_places.Λ : Cuts (Tp Gocode_places.rk) := cutsOf [(122, cut Try.prog Gocode_places.fr122 Gocode_places.ou122 (Gocode_places.T122 NN))]
theorem Gocode_places.c122 (A : Nat → Prop) (w0 : World) : CutOk Try.prog ⟨Try.f64.ntmps, A⟩ w0 (kRet Try.prog Try.f64.results.toList Gocode_places.rk) (bodyOf Try.f64) 122 (cut Try.prog Gocode_places.fr122 Gocode_places.ou122 (Gocode_places.T122 NN)) :=
  loop_ok Gocode_places.hρ (Λ := Gocode_places.Λ0) (cuts_nil) (by kernel_rfl) (D := 64) (b := loopOf Try.f64 122) (by kernel_rfl) (by kernel_rfl) NN (fun x κ => by kernel_rfl) (fun k x κ => by kernel_rfl)
theorem Gocode_places.spec : Spec Try.prog 64 Gocode_places.pk Gocode_places.rk Gocode_places.g :=
  spec_of_body (fn := Try.f64) (c := bodyOf Try.f64) (by kernel_rfl) (by kernel_rfl) (by kernel_rfl) (by kernel_rfl) (ρ := Gocode_places.ρ) Gocode_places.hρ (Λ := Gocode_places.Λ) (fun A w0 => cuts_cons (Gocode_places.c122 A w0) (cuts_nil)) (fun x => by kernel_rfl)

/-! ### 69 bluebell/ocode.Ends -/
def Gocode_Ends.p53 (v0 : List D) (v1 : Int) (v9 : Int) (v10 : Bool) (κ0 : Unit → Option Bool) : Option Bool :=
  bif v10 then some true else bif (v9 == 29) then gd (inB v1 v0.length) (some ((((rd v0 v1.toNat).cell 2).int) == 0)) else bif (v9 == 30) then gd ((!(!((IntKind.i64.wrap (v1 + 1)) == (v0.length : Int)))) || (inB (IntKind.i64.wrap (v1 + 1)) v0.length)) (some (((IntKind.i64.wrap (v1 + 1)) == (v0.length : Int)) || ((((rd v0 (IntKind.i64.wrap (v1 + 1)).toNat).cell 0).int) != 30))) else κ0 ()
def Gocode_Ends.f (a0 : List D) (a1 : Int) : Option Bool :=
  gd (inB a1 a0.length) (bif ((((rd a0 a1.toNat).cell 0).int) == 20) then Gocode_Ends.p53 a0 a1 (((rd a0 a1.toNat).cell 0).int) ((((rd a0 a1.toNat).cell 0).int) == 20) (fun y1 => some false) else bif ((((rd a0 a1.toNat).cell 0).int) == 25) then Gocode_Ends.p53 a0 a1 (((rd a0 a1.toNat).cell 0).int) ((((rd a0 a1.toNat).cell 0).int) == 25) (fun y2 => some false) else bif ((((rd a0 a1.toNat).cell 0).int) == 26) then Gocode_Ends.p53 a0 a1 (((rd a0 a1.toNat).cell 0).int) ((((rd a0 a1.toNat).cell 0).int) == 26) (fun y3 => some false) else Gocode_Ends.p53 a0 a1 (((rd a0 a1.toNat).cell 0).int) ((((rd a0 a1.toNat).cell 0).int) == 27) (fun y4 => some false))
def Gocode_Ends.pk : List FK := [.sl 35, .int .i64]
def Gocode_Ends.rk : List FK := [.bool]
def Gocode_Ends.g : Tp Gocode_Ends.pk → Option (Tp Gocode_Ends.rk) := fun x => Gocode_Ends.f x.1 x.2
def Gocode_Ends.ρ : List (Entry (Tp Gocode_Ends.rk)) := []
theorem Gocode_Ends.hρ : ∀ e ∈ Gocode_Ends.ρ, EntryOk Try.prog e :=
  ents_nil
def Gocode_Ends.fr53 : Fr := [(0, .sl 35), (1, .int .i64), (9, .int .i64), (10, .bool)]
def Gocode_Ends.ou53 : Outs := [(0, [])]
def Gocode_Ends.T53 (x : Gocode_Ends.fr53.T) (κ : Kp (Tp Gocode_Ends.rk) Gocode_Ends.ou53) : Option (Tp Gocode_Ends.rk) := Gocode_Ends.p53 x.1 x.2.1 x.2.2.1 x.2.2.2 κ.1
def Gocode_Ends.Λ0 : Cuts (Tp Gocode_Ends.rk) := cutsOf []
def Gocode_Ends.Λ : Cuts (Tp Gocode_Ends.rk) := cutsOf [(53, cut Try.prog Gocode_Ends.fr53 Gocode_Ends.ou53 (Gocode_Ends.T53))]
theorem Gocode_Ends.c53 (A : Nat → Prop) (w0 : World) : CutOk Try.prog ⟨Try.f69.ntmps, A⟩ w0 (kRet Try.prog Try.f69.results.toList Gocode_Ends.rk) (bodyOf Try.f69) 53 (cut Try.prog Gocode_Ends.fr53 Gocode_Ends.ou53 (Gocode_Ends.T53)) :=
  cut_ok Gocode_Ends.hρ (Λ := Gocode_Ends.Λ0) (cuts_nil) (by kernel_rfl) (by kernel_rfl) (D := 64) (c := nodeOf Try.f69 53) (by kernel_rfl) (by kernel_rfl) (fun x κ => by kernel_rfl)
theorem Gocode_Ends.spec : Spec Try.prog 69 Gocode_Ends.pk Gocode_Ends.rk Gocode_Ends.g :=
  spec_of_body (fn := Try.f69) (c := bodyOf Try.f69) (by kernel_rfl) (by kernel_rfl) (by kernel_rfl) (by kernel_rfl) (ρ := Gocode_Ends.ρ) Gocode_Ends.hρ (Λ := Gocode_Ends.Λ) (fun A w0 => cuts_cons (Gocode_Ends.c53 A w0) (cuts_nil)) (fun x => by kernel_rfl)

/-! ### 65 bluebell/ocode.order -/
def Gocode_order.l215378 : Nat → (List D) → Int → Int → Int → ((List D × Int) → Option Bool) → Option Bool
  | 0, _, _, _, _, _ => none
  | k + 1, v0, v3, v28, v29, κ4 =>
    bif decide (v29 < v28) then gd ((!(!(decide ((IntKind.i64.wrap ((IntKind.i64.wrap (v3 + 1)) + v29)) ≥ (v0.length : Int))))) || (inB (IntKind.i64.wrap ((IntKind.i64.wrap (v3 + 1)) + v29)) v0.length)) (bif ((decide ((IntKind.i64.wrap ((IntKind.i64.wrap (v3 + 1)) + v29)) ≥ (v0.length : Int))) || ((((rd v0 (IntKind.i64.wrap ((IntKind.i64.wrap (v3 + 1)) + v29)).toNat).cell 0).int) != 30)) then some false else Gocode_order.l215378 k v0 v3 v28 (IntKind.i64.wrap (v29 + 1)) κ4) else κ4 (v0, v3)
def Gocode_order.p1683 (v0 : List D) (v3 : Int) (v4 : Bool) (κ0 : (List D × Int) → Option Bool) : Option Bool :=
  gd ((!(!v4)) || (inB (IntKind.i64.wrap (v3 + 1)) v0.length)) ((bif (v4 || ((((rd v0 (IntKind.i64.wrap (v3 + 1)).toNat).cell 0).int) == 24)) then Gocode_Ends.f v0 v3 else some false).bind fun r2 => bif ((v4 || ((((rd v0 (IntKind.i64.wrap (v3 + 1)).toNat).cell 0).int) == 24)) && (!r2)) then some false else κ0 (v0, v3))
def Gocode_order.l26 : Nat → (List D) → Int → (List D → Option Bool) → Option Bool
  | 0, _, _, _ => none
  | k + 1, v0, v3, κ1 =>
    bif decide (v3 < (v0.length : Int)) then gd (inB v3 v0.length) (bif ((((rd v0 v3.toNat).cell 0).int) == 29) then gd (inB v3 v0.length) (Gocode_order.l215378 NN v0 v3 (((rd v0 v3.toNat).cell 2).int) 0 (fun y1 => gd (inB y1.2 y1.1.length) (gd ((!(!((IntKind.i64.wrap ((IntKind.i64.wrap (y1.2 + (((rd y1.1 y1.2.toNat).cell 2).int))) + 1)) == (y1.1.length : Int)))) || (inB (IntKind.i64.wrap ((IntKind.i64.wrap (y1.2 + (((rd y1.1 y1.2.toNat).cell 2).int))) + 1)) y1.1.length)) (bif ((!((IntKind.i64.wrap ((IntKind.i64.wrap (y1.2 + (((rd y1.1 y1.2.toNat).cell 2).int))) + 1)) == (y1.1.length : Int))) && ((((rd y1.1 (IntKind.i64.wrap ((IntKind.i64.wrap (y1.2 + (((rd y1.1 y1.2.toNat).cell 2).int))) + 1)).toNat).cell 0).int) == 30)) then some false else Gocode_order.p1683 y1.1 (IntKind.i64.wrap (y1.2 + (((rd y1.1 y1.2.toNat).cell 2).int))) ((IntKind.i64.wrap ((IntKind.i64.wrap (y1.2 + (((rd y1.1 y1.2.toNat).cell 2).int))) + 1)) == (y1.1.length : Int)) (fun y3 => Gocode_order.l26 k y3.1 (IntKind.i64.wrap (y3.2 + 1)) κ1))))) else bif ((((rd v0 v3.toNat).cell 0).int) == 30) then some false else bif ((((rd v0 v3.toNat).cell 0).int) == 19) then gd ((!(!((IntKind.i64.wrap (v3 + 1)) == (v0.length : Int)))) || (inB (IntKind.i64.wrap (v3 + 1)) v0.length)) (gd ((!((!((IntKind.i64.wrap (v3 + 1)) == (v0.length : Int))) && ((((rd v0 (IntKind.i64.wrap (v3 + 1)).toNat).cell 0).int) != 18))) || (inB (IntKind.i64.wrap (v3 + 1)) v0.length)) (gd ((!((!((IntKind.i64.wrap (v3 + 1)) == (v0.length : Int))) && (((((rd v0 (IntKind.i64.wrap (v3 + 1)).toNat).cell 0).int) != 18) && ((((rd v0 (IntKind.i64.wrap (v3 + 1)).toNat).cell 0).int) != 28)))) || (inB (IntKind.i64.wrap (v3 + 1)) v0.length)) (bif (((IntKind.i64.wrap (v3 + 1)) == (v0.length : Int)) || ((((((rd v0 (IntKind.i64.wrap (v3 + 1)).toNat).cell 0).int) != 18) && ((((rd v0 (IntKind.i64.wrap (v3 + 1)).toNat).cell 0).int) != 28)) && ((((rd v0 (IntKind.i64.wrap (v3 + 1)).toNat).cell 0).int) != 19))) then some false else Gocode_order.p1683 v0 v3 ((IntKind.i64.wrap (v3 + 1)) == (v0.length : Int)) (fun y4 => Gocode_order.l26 k y4.1 (IntKind.i64.wrap (y4.2 + 1)) κ1)))) else Gocode_order.p1683 v0 v3 ((IntKind.i64.wrap (v3 + 1)) == (v0.length : Int)) (fun y5 => Gocode_order.l26 k y5.1 (IntKind.i64.wrap (y5.2 + 1)) κ1)) else κ1 v0
def Gocode_order.f (a0 : List D) : Option Bool :=
  Gocode_order.l26 NN a0 0 (fun y6 => gd ((!(!((y6.length : Int) == 0))) || (inB 0 y6.length)) (some (((y6.length : Int) == 0) || ((((rd y6 0).cell 0).int) == 24))))
def Gocode_order.pk : List FK := [.sl 35]
def Gocode_order.rk : List FK := [.bool]
def Gocode_order.g : Tp Gocode_order.pk → Option (Tp Gocode_order.rk) := fun x => Gocode_order.f x
def Gocode_order.ρ : List (Entry (Tp Gocode_order.rk)) := [entry _ Try.prog 69 Gocode_Ends.pk Gocode_Ends.rk Gocode_Ends.g]
theorem Gocode_order.hρ : ∀ e ∈ Gocode_order.ρ, EntryOk Try.prog e :=
  ents_cons (ent (fn := Try.f69) Gocode_Ends.spec (by kernel_rfl) (by kernel_rfl) (by kernel_rfl) (by kernel_rfl)) (ents_nil)
def Gocode_order.fr215378 : Fr := [(0, .sl 35), (3, .int .i64), (28, .int .i64), (29, .int .i64)]
def Gocode_order.ou215378 : Outs := [(4, [(0, .sl 35), (3, .int .i64)])]
def Gocode_order.T215378 (k : Nat) (x : Gocode_order.fr215378.T) (κ : Kp (Tp Gocode_order.rk) Gocode_order.ou215378) : Option (Tp Gocode_order.rk) := Gocode_order.l215378 k x.1 x.2.1 x.2.2.1 x.2.2.2 κ.1
def Gocode_order.fr1683 : Fr := [(0, .sl 35), (3, .int .i64), (4, .bool)]
def Gocode_order.ou1683 : Outs := [(0, [(0, .sl 35), (3, .int .i64)])]
def Gocode_order.T1683 (x : Gocode_order.fr1683.T) (κ : Kp (Tp Gocode_order.rk) Gocode_order.ou1683) : Option (Tp Gocode_order.rk) := Gocode_order.p1683 x.1 x.2.1 x.2.2 κ.1
def Gocode_order.fr26 : Fr := [(0, .sl 35), (3, .int .i64)]
def Gocode_order.ou26 : Outs := [(1, [(0, .sl 35)])]
def Gocode_order.T26 (k : Nat) (x : Gocode_order.fr26.T) (κ : Kp (Tp Gocode_order.rk) Gocode_order.ou26) : Option (Tp Gocode_order.rk) := Gocode_order.l26 k x.1 x.2 κ.1
def Gocode_order.Λ0 : Cuts (Tp Gocode_order.rk) := cutsOf []
def Gocode_order.Λ1 : Cuts (Tp Gocode_order.rk) := cutsOf [(215378, cut Try.prog Gocode_order.fr215378 Gocode_order.ou215378 (Gocode_order.T215378 NN))]
def Gocode_order.Λ2 : Cuts (Tp Gocode_order.rk) := cutsOf [(1683, cut Try.prog Gocode_order.fr1683 Gocode_order.ou1683 (Gocode_order.T1683)), (215378, cut Try.prog Gocode_order.fr215378 Gocode_order.ou215378 (Gocode_order.T215378 NN))]
def Gocode_order.Λ : Cuts (Tp Gocode_order.rk) := cutsOf [(26, cut Try.prog Gocode_order.fr26 Gocode_order.ou26 (Gocode_order.T26 NN)), (1683, cut Try.prog Gocode_order.fr1683 Gocode_order.ou1683 (Gocode_order.T1683)), (215378, cut Try.prog Gocode_order.fr215378 Gocode_order.ou215378 (Gocode_order.T215378 NN))]
theorem Gocode_order.c215378 (A : Nat → Prop) (w0 : World) : CutOk Try.prog ⟨Try.f65.ntmps, A⟩ w0 (kRet Try.prog Try.f65.results.toList Gocode_order.rk) (bodyOf Try.f65) 215378 (cut Try.prog Gocode_order.fr215378 Gocode_order.ou215378 (Gocode_order.T215378 NN)) :=
  loop_ok Gocode_order.hρ (Λ := Gocode_order.Λ0) (cuts_nil) (by kernel_rfl) (D := 64) (b := loopOf Try.f65 215378) (by kernel_rfl) (by kernel_rfl) NN (fun x κ => by kernel_rfl) (fun k x κ => by kernel_rfl)
theorem Gocode_order.c1683 (A : Nat → Prop) (w0 : World) : CutOk Try.prog ⟨Try.f65.ntmps, A⟩ w0 (kRet Try.prog Try.f65.results.toList Gocode_order.rk) (bodyOf Try.f65) 1683 (cut Try.prog Gocode_order.fr1683 Gocode_order.ou1683 (Gocode_order.T1683)) :=
  cut_ok Gocode_order.hρ (Λ := Gocode_order.Λ1) (cuts_cons (Gocode_order.c215378 A w0) (cuts_nil)) (by kernel_rfl) (by kernel_rfl) (D := 64) (c := nodeOf Try.f65 1683) (by kernel_rfl) (by kernel_rfl) (fun x κ => by kernel_rfl)
theorem Gocode_order.c26 (A : Nat → Prop) (w0 : World) : CutOk Try.prog ⟨Try.f65.ntmps, A⟩ w0 (kRet Try.prog Try.f65.results.toList Gocode_order.rk) (bodyOf Try.f65) 26 (cut Try.prog Gocode_order.fr26 Gocode_order.ou26 (Gocode_order.T26 NN)) :=
  loop_ok Gocode_order.hρ (Λ := Gocode_order.Λ2) (cuts_cons (Gocode_order.c1683 A w0) (cuts_cons (Gocode_order.c215378 A w0) (cuts_nil))) (by kernel_rfl) (D := 64) (b := loopOf Try.f65 26) (by kernel_rfl) (by kernel_rfl) NN (fun x κ => by kernel_rfl) (fun k x κ => by kernel_rfl)
theorem Gocode_order.spec : Spec Try.prog 65 Gocode_order.pk Gocode_order.rk Gocode_order.g :=
  spec_of_body (fn := Try.f65) (c := bodyOf Try.f65) (by kernel_rfl) (by kernel_rfl) (by kernel_rfl) (by kernel_rfl) (ρ := Gocode_order.ρ) Gocode_order.hρ (Λ := Gocode_order.Λ) (fun A w0 => cuts_cons (Gocode_order.c26 A w0) (cuts_cons (Gocode_order.c1683 A w0) (cuts_cons (Gocode_order.c215378 A w0) (cuts_nil)))) (fun x => by kernel_rfl)

/-! ### 90 bluebell/ocode.areas$1 -/
def Gocode_areas_1.f (a0 : Int) : Option Bool :=
  (Gocode_wide.f a0).bind fun r1 => some (!r1)
def Gocode_areas_1.pk : List FK := [.int .i64]
def Gocode_areas_1.rk : List FK := [.bool]
def Gocode_areas_1.g : Tp Gocode_areas_1.pk → Option (Tp Gocode_areas_1.rk) := fun x => Gocode_areas_1.f x
def Gocode_areas_1.ρ : List (Entry (Tp Gocode_areas_1.rk)) := [entry _ Try.prog 87 Gocode_wide.pk Gocode_wide.rk Gocode_wide.g]
theorem Gocode_areas_1.hρ : ∀ e ∈ Gocode_areas_1.ρ, EntryOk Try.prog e :=
  ents_cons (ent (fn := Try.f87) Gocode_wide.spec (by kernel_rfl) (by kernel_rfl) (by kernel_rfl) (by kernel_rfl)) (ents_nil)
def Gocode_areas_1.Λ : Cuts (Tp Gocode_areas_1.rk) := cutsOf []
theorem Gocode_areas_1.spec : Spec Try.prog 90 Gocode_areas_1.pk Gocode_areas_1.rk Gocode_areas_1.g :=
  spec_of_body (fn := Try.f90) (c := bodyOf Try.f90) (by kernel_rfl) (by kernel_rfl) (by kernel_rfl) (by kernel_rfl) (ρ := Gocode_areas_1.ρ) Gocode_areas_1.hρ (Λ := Gocode_areas_1.Λ) (fun A w0 => cuts_nil) (fun x => by kernel_rfl)

/-! ### (99, None, 90) slices.IndexFunc[[]int,int] -/
def Gslices_IndexFunc___int_int_90.l26 : Nat → (List D) → Unit → Int → Int → (Unit → Option Int) → Option Int
  | 0, _, _, _, _, _ => none
  | k + 1, v0, v1, v7, v8, κ1 =>
    bif decide (v8 < v7) then gd (inB v8 v0.length) ((Gocode_areas_1.f ((rd v0 v8.toNat).int)).bind fun r1 => bif r1 then some v8 else Gslices_IndexFunc___int_int_90.l26 k v0 () v7 (IntKind.i64.wrap (v8 + 1)) κ1) else κ1 ()
def Gslices_IndexFunc___int_int_90.f (a0 : List D) (a1 : Unit) : Option Int :=
  Gslices_IndexFunc___int_int_90.l26 NN a0 () (a0.length : Int) 0 (fun y2 => some (-1))
def Gslices_IndexFunc___int_int_90.pk : List FK := [.sl 3, .fn 90]
def Gslices_IndexFunc___int_int_90.rk : List FK := [.int .i64]
def Gslices_IndexFunc___int_int_90.g : Tp Gslices_IndexFunc___int_int_90.pk → Option (Tp Gslices_IndexFunc___int_int_90.rk) := fun x => Gslices_IndexFunc___int_int_90.f x.1 x.2
def Gslices_IndexFunc___int_int_90.ρ : List (Entry (Tp Gslices_IndexFunc___int_int_90.rk)) := [entry _ Try.prog 90 Gocode_areas_1.pk Gocode_areas_1.rk Gocode_areas_1.g]
theorem Gslices_IndexFunc___int_int_90.hρ : ∀ e ∈ Gslices_IndexFunc___int_int_90.ρ, EntryOk Try.prog e :=
  ents_cons (ent (fn := Try.f90) Gocode_areas_1.spec (by kernel_rfl) (by kernel_rfl) (by kernel_rfl) (by kernel_rfl)) (ents_nil)
def Gslices_IndexFunc___int_int_90.fr26 : Fr := [(0, .sl 3), (1, .fn 90), (7, .int .i64), (8, .int .i64)]
def Gslices_IndexFunc___int_int_90.ou26 : Outs := [(1, [])]
def Gslices_IndexFunc___int_int_90.T26 (k : Nat) (x : Gslices_IndexFunc___int_int_90.fr26.T) (κ : Kp (Tp Gslices_IndexFunc___int_int_90.rk) Gslices_IndexFunc___int_int_90.ou26) : Option (Tp Gslices_IndexFunc___int_int_90.rk) := Gslices_IndexFunc___int_int_90.l26 k x.1 x.2.1 x.2.2.1 x.2.2.2 κ.1
def Gslices_IndexFunc___int_int_90.Λ0 : Cuts (Tp Gslices_IndexFunc___int_int_90.rk) := cutsOf []
def Gslices_IndexFunc___int_int_90.Λ : Cuts (Tp Gslices_IndexFunc___int_int_90.rk) := cutsOf [(26, cut Try.prog Gslices_IndexFunc___int_int_90.fr26 Gslices_IndexFunc___int_int_90.ou26 (Gslices_IndexFunc___int_int_90.T26 NN))]
theorem Gslices_IndexFunc___int_int_90.c26 (A : Nat → Prop) (w0 : World) : CutOk Try.prog ⟨Try.f99.ntmps, A⟩ w0 (kRet Try.prog Try.f99.results.toList Gslices_IndexFunc___int_int_90.rk) (bodyOf Try.f99) 26 (cut Try.prog Gslices_IndexFunc___int_int_90.fr26 Gslices_IndexFunc___int_int_90.ou26 (Gslices_IndexFunc___int_int_90.T26 NN)) :=
  loop_ok Gslices_IndexFunc___int_int_90.hρ (Λ := Gslices_IndexFunc___int_int_90.Λ0) (cuts_nil) (by kernel_rfl) (D := 64) (b := loopOf Try.f99 26) (by kernel_rfl) (by kernel_rfl) NN (fun x κ => by kernel_rfl) (fun k x κ => by kernel_rfl)
theorem Gslices_IndexFunc___int_int_90.spec : Spec Try.prog 99 Gslices_IndexFunc___int_int_90.pk Gslices_IndexFunc___int_int_90.rk Gslices_IndexFunc___int_int_90.g :=
  spec_of_body (fn := Try.f99) (c := bodyOf Try.f99) (by kernel_rfl) (by kernel_rfl) (by kernel_rfl) (by kernel_rfl) (ρ := Gslices_IndexFunc___int_int_90.ρ) Gslices_IndexFunc___int_int_90.hρ (Λ := Gslices_IndexFunc___int_int_90.Λ) (fun A w0 => cuts_cons (Gslices_IndexFunc___int_int_90.c26 A w0) (cuts_nil)) (fun x => by kernel_rfl)

/-! ### (89, None, 90) slices.ContainsFunc[[]int,int] -/
def Gslices_ContainsFunc___int_int_90.f (a0 : List D) (a1 : Unit) : Option Bool :=
  (Gslices_IndexFunc___int_int_90.f a0 ()).bind fun r1 => some (decide (r1 ≥ 0))
def Gslices_ContainsFunc___int_int_90.pk : List FK := [.sl 3, .fn 90]
def Gslices_ContainsFunc___int_int_90.rk : List FK := [.bool]
def Gslices_ContainsFunc___int_int_90.g : Tp Gslices_ContainsFunc___int_int_90.pk → Option (Tp Gslices_ContainsFunc___int_int_90.rk) := fun x => Gslices_ContainsFunc___int_int_90.f x.1 x.2
def Gslices_ContainsFunc___int_int_90.ρ : List (Entry (Tp Gslices_ContainsFunc___int_int_90.rk)) := [entry _ Try.prog 99 Gslices_IndexFunc___int_int_90.pk Gslices_IndexFunc___int_int_90.rk Gslices_IndexFunc___int_int_90.g]
theorem Gslices_ContainsFunc___int_int_90.hρ : ∀ e ∈ Gslices_ContainsFunc___int_int_90.ρ, EntryOk Try.prog e :=
  ents_cons (ent (fn := Try.f99) Gslices_IndexFunc___int_int_90.spec (by kernel_rfl) (by kernel_rfl) (by kernel_rfl) (by kernel_rfl)) (ents_nil)
def Gslices_ContainsFunc___int_int_90.Λ : Cuts (Tp Gslices_ContainsFunc___int_int_90.rk) := cutsOf []
theorem Gslices_ContainsFunc___int_int_90.spec : Spec Try.prog 89 Gslices_ContainsFunc___int_int_90.pk Gslices_ContainsFunc___int_int_90.rk Gslices_ContainsFunc___int_int_90.g :=
  spec_of_body (fn := Try.f89) (c := bodyOf Try.f89) (by kernel_rfl) (by kernel_rfl) (by kernel_rfl) (by kernel_rfl) (ρ := Gslices_ContainsFunc___int_int_90.ρ) Gslices_ContainsFunc___int_int_90.hρ (Λ := Gslices_ContainsFunc___int_int_90.Λ) (fun A w0 => cuts_nil) (fun x => by kernel_rfl)

/-! ### 66 bluebell/ocode.areas -/
def Gocode_areas.l26 : Nat → D → (List D) → Int → Int → (D → Option Bool) → Option Bool
  | 0, _, _, _, _, _ => none
  | k + 1, v1, v11, v12, v13, κ1 =>
    bif decide (v13 < v12) then gd (inB v13 v11.length) (bif ((rd v11 v13.toNat).cell 1).bool then (Glex_Quote.f (((rd v11 v13.toNat).cell 0).str)).bind fun r1 => bif ((r1.2 != 0) || (decide (((((rd v11 v13.toNat).cell 2).list).length : Int) > 0))) then some false else Gocode_areas.l26 k v1 v11 v12 (IntKind.i64.wrap (v13 + 1)) κ1 else (bif (!((!((((rd v11 v13.toNat).cell 0).str).toList == strNil.toList)) || (((((rd v11 v13.toNat).cell 2).list).length : Int) == 0))) then Gslices_ContainsFunc___int_int_90.f (((rd v11 v13.toNat).cell 2).list) () else some false).bind fun r2 => bif (((!((((rd v11 v13.toNat).cell 0).str).toList == strNil.toList)) || (((((rd v11 v13.toNat).cell 2).list).length : Int) == 0)) || r2) then some false else Gocode_areas.l26 k v1 v11 v12 (IntKind.i64.wrap (v13 + 1)) κ1) else κ1 v1
def Gocode_areas.l122 : Nat → D → (List (D × D)) → (List D) → Int → Int → (Unit → Option Bool) → Option Bool
  | 0, _, _, _, _, _, _ => none
  | k + 1, v1, v7, v50, v51, v52, κ3 =>
    bif decide (v52 < v51) then gd (inB v52 v50.length) ((Gocode_in.f (((rd v50 v52.toNat).cell 0).int) 1 199).bind fun r4 => gd ((!(!(!r4))) || (inK .i64 (((rd v50 v52.toNat).cell 0).int))) ((bif (!((!r4) || ((mget (K.int .i64) (.i (((rd v50 v52.toNat).cell 0).int)) (.b false) v7).bool))) then Gocode_in.f (((rd v50 v52.toNat).cell 1).int) 1 ((v1.cell 4).int) else some false).bind fun r5 => bif (((!r4) || ((mget (K.int .i64) (.i (((rd v50 v52.toNat).cell 0).int)) (.b false) v7).bool)) || (!r5)) then some false else gd ((inK .i64 (((rd v50 v52.toNat).cell 0).int)) && Nat.blt v7.length lim) (Gocode_areas.l122 k v1 ((.i (((rd v50 v52.toNat).cell 0).int), .b true) :: v7) v50 v51 (IntKind.i64.wrap (v52 + 1)) κ3))) else κ3 ()
def Gocode_areas.f (a0 : D) : Option Bool :=
  Gocode_areas.l26 NN a0 ((a0.cell 1).list) (((a0.cell 1).list).length : Int) 0 (fun y3 => Gocode_areas.l122 NN y3 ([] : List (D × D)) ((y3.cell 3).list) (((y3.cell 3).list).length : Int) 0 (fun y6 => some true))
def Gocode_areas.pk : List FK := [.st 26]
def Gocode_areas.rk : List FK := [.bool]
def Gocode_areas.g : Tp Gocode_areas.pk → Option (Tp Gocode_areas.rk) := fun x => Gocode_areas.f x
def Gocode_areas.ρ : List (Entry (Tp Gocode_areas.rk)) := [entry _ Try.prog 62 Glex_Quote.pk Glex_Quote.rk Glex_Quote.g, entry _ Try.prog 89 Gslices_ContainsFunc___int_int_90.pk Gslices_ContainsFunc___int_int_90.rk Gslices_ContainsFunc___int_int_90.g, entry _ Try.prog 88 Gocode_in.pk Gocode_in.rk Gocode_in.g]
theorem Gocode_areas.hρ : ∀ e ∈ Gocode_areas.ρ, EntryOk Try.prog e :=
  ents_cons (ent (fn := Try.f62) Glex_Quote.spec (by kernel_rfl) (by kernel_rfl) (by kernel_rfl) (by kernel_rfl)) (ents_cons (ent (fn := Try.f89) Gslices_ContainsFunc___int_int_90.spec (by kernel_rfl) (by kernel_rfl) (by kernel_rfl) (by kernel_rfl)) (ents_cons (ent (fn := Try.f88) Gocode_in.spec (by kernel_rfl) (by kernel_rfl) (by kernel_rfl) (by kernel_rfl)) (ents_nil)))
def Gocode_areas.fr26 : Fr := [(1, .bx (.st 26)), (11, .sl 47), (12, .int .i64), (13, .int .i64)]
def Gocode_areas.ou26 : Outs := [(1, [(1, .bx (.st 26))])]
def Gocode_areas.T26 (k : Nat) (x : Gocode_areas.fr26.T) (κ : Kp (Tp Gocode_areas.rk) Gocode_areas.ou26) : Option (Tp Gocode_areas.rk) := Gocode_areas.l26 k x.1 x.2.1 x.2.2.1 x.2.2.2 κ.1
def Gocode_areas.fr122 : Fr := [(1, .bx (.st 26)), (7, .mp 3 4), (50, .sl 68), (51, .int .i64), (52, .int .i64)]
def Gocode_areas.ou122 : Outs := [(3, [])]
def Gocode_areas.T122 (k : Nat) (x : Gocode_areas.fr122.T) (κ : Kp (Tp Gocode_areas.rk) Gocode_areas.ou122) : Option (Tp Gocode_areas.rk) := Gocode_areas.l122 k x.1 x.2.1 x.2.2.1 x.2.2.2.1 x.2.2.2.2 κ.1
def Gocode_areas.Λ0 : Cuts (Tp Gocode_areas.rk) := cutsOf []
def Gocode_areas.Λ1 : Cuts (Tp Gocode_areas.rk) := cutsOf [(26, cut Try.prog Gocode_areas.fr26 Gocode_areas.ou26 (Gocode_areas.T26 NN))]
def Gocode_areas.Λ : Cuts (Tp Gocode_areas.rk) := cutsOf [(122, cut Try.prog Gocode_areas.fr122 Gocode_areas.ou122 (Gocode_areas.T122 NN)), (26, cut Try.prog Gocode_areas.fr26 Gocode_areas.ou26 (Gocode_areas.T26 NN))]
theorem Gocode_areas.c26 (A : Nat → Prop) (w0 : World) : CutOk Try.prog ⟨Try.f66.ntmps, A⟩ w0 (kRet Try.prog Try.f66.results.toList Gocode_areas.rk) (bodyOf Try.f66) 26 (cut Try.prog Gocode_areas.fr26 Gocode_areas.ou26 (Gocode_areas.T26 NN)) :=
  loop_ok Gocode_areas.hρ (Λ := Gocode_areas.Λ0) (cuts_nil) (by kernel_rfl) (D := 64) (b := loopOf Try.f66 26) (by kernel_rfl) (by kernel_rfl) NN (fun x κ => by kernel_rfl) (fun k x κ => by kernel_rfl)
theorem Gocode_areas.c122 (A : Nat → Prop) (w0 : World) : CutOk Try.prog ⟨Try.f66.ntmps, A⟩ w0 (kRet Try.prog Try.f66.results.toList Gocode_areas.rk) (bodyOf Try.f66) 122 (cut Try.prog Gocode_areas.fr122 Gocode_areas.ou122 (Gocode_areas.T122 NN)) :=
  loop_ok Gocode_areas.hρ (Λ := Gocode_areas.Λ1) (cuts_cons (Gocode_areas.c26 A w0) (cuts_nil)) (by kernel_rfl) (D := 64) (b := loopOf Try.f66 122) (by kernel_rfl) (by kernel_rfl) NN (fun x κ => by kernel_rfl) (fun k x κ => by kernel_rfl)
theorem Gocode_areas.spec : Spec Try.prog 66 Gocode_areas.pk Gocode_areas.rk Gocode_areas.g :=
  spec_of_body (fn := Try.f66) (c := bodyOf Try.f66) (by kernel_rfl) (by kernel_rfl) (by kernel_rfl) (by kernel_rfl) (ρ := Gocode_areas.ρ) Gocode_areas.hρ (Λ := Gocode_areas.Λ) (fun A w0 => cuts_cons (Gocode_areas.c122 A w0) (cuts_cons (Gocode_areas.c26 A w0) (cuts_nil))) (fun x => by kernel_rfl)

/-! ### 35 bluebell/ocode.Named -/
def Gocode_Named.p53 (v1 : D) (v4 : Int) (v5 : Bool) (κ0 : Unit → Option Int) : Option Int :=
  bif v5 then some ((v1.cell 1).int) else bif (v4 == 30) then some ((v1.cell 2).int) else κ0 ()
def Gocode_Named.f (a0 : D) : Option Int :=
  bif (((a0.cell 0).int) == 20) then Gocode_Named.p53 a0 ((a0.cell 0).int) (((a0.cell 0).int) == 20) (fun y1 => some 0) else bif (((a0.cell 0).int) == 21) then Gocode_Named.p53 a0 ((a0.cell 0).int) (((a0.cell 0).int) == 21) (fun y2 => some 0) else bif (((a0.cell 0).int) == 22) then Gocode_Named.p53 a0 ((a0.cell 0).int) (((a0.cell 0).int) == 22) (fun y3 => some 0) else bif (((a0.cell 0).int) == 27) then Gocode_Named.p53 a0 ((a0.cell 0).int) (((a0.cell 0).int) == 27) (fun y4 => some 0) else Gocode_Named.p53 a0 ((a0.cell 0).int) (((a0.cell 0).int) == 29) (fun y5 => some 0)
def Gocode_Named.pk : List FK := [.st 35]
def Gocode_Named.rk : List FK := [.int .i64]
def Gocode_Named.g : Tp Gocode_Named.pk → Option (Tp Gocode_Named.rk) := fun x => Gocode_Named.f x
def Gocode_Named.ρ : List (Entry (Tp Gocode_Named.rk)) := []
theorem Gocode_Named.hρ : ∀ e ∈ Gocode_Named.ρ, EntryOk Try.prog e :=
  ents_nil
def Gocode_Named.fr53 : Fr := [(1, .bx (.st 35)), (4, .int .i64), (5, .bool)]
def Gocode_Named.ou53 : Outs := [(0, [])]
def Gocode_Named.T53 (x : Gocode_Named.fr53.T) (κ : Kp (Tp Gocode_Named.rk) Gocode_Named.ou53) : Option (Tp Gocode_Named.rk) := Gocode_Named.p53 x.1 x.2.1 x.2.2 κ.1
def Gocode_Named.Λ0 : Cuts (Tp Gocode_Named.rk) := cutsOf []
def Gocode_Named.Λ : Cuts (Tp Gocode_Named.rk) := cutsOf [(53, cut Try.prog Gocode_Named.fr53 Gocode_Named.ou53 (Gocode_Named.T53))]
theorem Gocode_Named.c53 (A : Nat → Prop) (w0 : World) : CutOk Try.prog ⟨Try.f35.ntmps, A⟩ w0 (kRet Try.prog Try.f35.results.toList Gocode_Named.rk) (bodyOf Try.f35) 53 (cut Try.prog Gocode_Named.fr53 Gocode_Named.ou53 (Gocode_Named.T53)) :=
  cut_ok Gocode_Named.hρ (Λ := Gocode_Named.Λ0) (cuts_nil) (by kernel_rfl) (by kernel_rfl) (D := 64) (c := nodeOf Try.f35 53) (by kernel_rfl) (by kernel_rfl) (fun x κ => by kernel_rfl)
theorem Gocode_Named.spec : Spec Try.prog 35 Gocode_Named.pk Gocode_Named.rk Gocode_Named.g :=
  spec_of_body (fn := Try.f35) (c := bodyOf Try.f35) (by kernel_rfl) (by kernel_rfl) (by kernel_rfl) (by kernel_rfl) (ρ := Gocode_Named.ρ) Gocode_Named.hρ (Λ := Gocode_Named.Λ) (fun A w0 => cuts_cons (Gocode_Named.c53 A w0) (cuts_nil)) (fun x => by kernel_rfl)

/-! ### 40 bluebell/ocode.coded -/
def Gocode_coded.l122 : Nat → D → (List D) → (List D) → Int → Int → (D → Option Bool) → Option Bool
  | 0, _, _, _, _, _, _ => none
  | k + 1, v1, v5, v35, v36, v37, κ1 =>
    bif decide (v37 < v36) then gd (inB v37 v35.length) (gd ((!(!((decide ((((rd v35 v37.toNat).cell 0).int) < 1)) || (decide ((((rd v35 v37.toNat).cell 0).int) ≥ 31))))) || (inB (((rd v35 v37.toNat).cell 0).int) 31 && inB (((rd v35 v37.toNat).cell 0).int) v5.length)) (gd ((!(!((decide ((((rd v35 v37.toNat).cell 0).int) < 1)) || (decide ((((rd v35 v37.toNat).cell 0).int) ≥ 31))))) || (Nat.blt (((rd v35 v37.toNat).cell 0).int).toNat v5.length)) ((bif (!((decide ((((rd v35 v37.toNat).cell 0).int) < 1)) || (decide ((((rd v35 v37.toNat).cell 0).int) ≥ 31)))) then Gocode_numbers.f (rd v35 v37.toNat) v1 (rd v5 (((rd v35 v37.toNat).cell 0).int).toNat) else some false).bind fun r3 => bif (((decide ((((rd v35 v37.toNat).cell 0).int) < 1)) || (decide ((((rd v35 v37.toNat).cell 0).int) ≥ 31))) || (!r3)) then some false else Gocode_coded.l122 k v1 v5 v35 v36 (IntKind.i64.wrap (v37 + 1)) κ1))) else κ1 v1
def Gocode_coded.p261427 (v8 : List D) (v9 : List D) (v11 : Int) (v13 : D) (v80 : List D) (v81 : Int) (v82 : Int) (κ0 : (List D × List D × Int × List D × Int × Int) → Option Bool) : Option Bool :=
  (Gocode_Named.f v13).bind fun r8 => gd ((!(decide (r8 > 0))) || (inB r8 v9.length)) (gd ((!(decide (r8 > 0))) || (Nat.blt r8.toNat v9.length)) (gd ((!((decide (r8 > 0)) && (!(((rd v9 r8.toNat).int) != v11)))) || (inB r8 v8.length)) (gd ((!((decide (r8 > 0)) && (!(((rd v9 r8.toNat).int) != v11)))) || (Nat.blt r8.toNat v8.length)) (bif ((decide (r8 > 0)) && ((((rd v9 r8.toNat).int) != v11) || (((rd v8 r8.toNat).int) == 0))) then some false else κ0 (v8, v9, v11, v80, v81, v82)))))
def Gocode_coded.l2042 : Nat → (List D) → (List D) → Int → (List D) → Int → Int → (Unit → Option Bool) → Option Bool
  | 0, _, _, _, _, _, _, _ => none
  | k + 1, v8, v9, v11, v80, v81, v82, κ3 =>
    bif decide (v82 < v81) then gd (inB v82 v80.length) (bif ((((rd v80 v82.toNat).cell 0).int) == 24) then Gocode_coded.p261427 v8 v9 (((rd v80 v82.toNat).cell 1).int) (rd v80 v82.toNat) v80 v81 v82 (fun y9 => Gocode_coded.l2042 k y9.1 y9.2.1 y9.2.2.1 y9.2.2.2.1 y9.2.2.2.2.1 (IntKind.i64.wrap (y9.2.2.2.2.2 + 1)) κ3) else Gocode_coded.p261427 v8 v9 v11 (rd v80 v82.toNat) v80 v81 v82 (fun y10 => Gocode_coded.l2042 k y10.1 y10.2.1 y10.2.2.1 y10.2.2.2.1 y10.2.2.2.2.1 (IntKind.i64.wrap (y10.2.2.2.2.2 + 1)) κ3)) else κ3 ()
def Gocode_coded.f (a0 : D) : Option Bool :=
  (Glex_Quote.f ((a0.cell 0).str)).bind fun r1 => bif (((r1.2 != 0) || (decide (((a0.cell 4).int) < 0))) || (decide (((a0.cell 5).int) < 0))) then some false else (Gocode_kinds.f).bind fun r2 => gd (Nat.beq (r2 : List D).length ((List.replicate 31 (.r [.s ByteArray.empty, .i 0, .i 0, .i 0] : D)) : List D).length && Nat.beq (r2 : List D).length 31) (Gocode_coded.l122 NN a0 r2 ((a0.cell 2).list) (((a0.cell 2).list).length : Int) 0 (fun y4 => (Gocode_places.f y4).bind fun r5 => (bif (!(!r5.2.2)) then Gocode_order.f ((y4.cell 2).list) else some false).bind fun r6 => (bif (!((!r5.2.2) || (!r6))) then Gocode_areas.f y4 else some false).bind fun r7 => bif (((!r5.2.2) || (!r6)) || (!r7)) then some false else Gocode_coded.l2042 NN r5.1 r5.2.1 0 ((y4.cell 2).list) (((y4.cell 2).list).length : Int) 0 (fun y11 => some true)))
def Gocode_coded.pk : List FK := [.st 26]
def Gocode_coded.rk : List FK := [.bool]
def Gocode_coded.g : Tp Gocode_coded.pk → Option (Tp Gocode_coded.rk) := fun x => Gocode_coded.f x
def Gocode_coded.ρ : List (Entry (Tp Gocode_coded.rk)) := [entry _ Try.prog 62 Glex_Quote.pk Glex_Quote.rk Glex_Quote.g, entry _ Try.prog 36 Gocode_kinds.pk Gocode_kinds.rk Gocode_kinds.g, entry _ Try.prog 63 Gocode_numbers.pk Gocode_numbers.rk Gocode_numbers.g, entry _ Try.prog 64 Gocode_places.pk Gocode_places.rk Gocode_places.g, entry _ Try.prog 65 Gocode_order.pk Gocode_order.rk Gocode_order.g, entry _ Try.prog 66 Gocode_areas.pk Gocode_areas.rk Gocode_areas.g, entry _ Try.prog 35 Gocode_Named.pk Gocode_Named.rk Gocode_Named.g]
theorem Gocode_coded.hρ : ∀ e ∈ Gocode_coded.ρ, EntryOk Try.prog e :=
  ents_cons (ent (fn := Try.f62) Glex_Quote.spec (by kernel_rfl) (by kernel_rfl) (by kernel_rfl) (by kernel_rfl)) (ents_cons (ent (fn := Try.f36) Gocode_kinds.spec (by kernel_rfl) (by kernel_rfl) (by kernel_rfl) (by kernel_rfl)) (ents_cons (ent (fn := Try.f63) Gocode_numbers.spec (by kernel_rfl) (by kernel_rfl) (by kernel_rfl) (by kernel_rfl)) (ents_cons (ent (fn := Try.f64) Gocode_places.spec (by kernel_rfl) (by kernel_rfl) (by kernel_rfl) (by kernel_rfl)) (ents_cons (ent (fn := Try.f65) Gocode_order.spec (by kernel_rfl) (by kernel_rfl) (by kernel_rfl) (by kernel_rfl)) (ents_cons (ent (fn := Try.f66) Gocode_areas.spec (by kernel_rfl) (by kernel_rfl) (by kernel_rfl) (by kernel_rfl)) (ents_cons (ent (fn := Try.f35) Gocode_Named.spec (by kernel_rfl) (by kernel_rfl) (by kernel_rfl) (by kernel_rfl)) (ents_nil)))))))
def Gocode_coded.fr122 : Fr := [(1, .bx (.st 26)), (5, .arr 53), (35, .sl 35), (36, .int .i64), (37, .int .i64)]
def Gocode_coded.ou122 : Outs := [(1, [(1, .bx (.st 26))])]
def Gocode_coded.T122 (k : Nat) (x : Gocode_coded.fr122.T) (κ : Kp (Tp Gocode_coded.rk) Gocode_coded.ou122) : Option (Tp Gocode_coded.rk) := Gocode_coded.l122 k x.1 x.2.1 x.2.2.1 x.2.2.2.1 x.2.2.2.2 κ.1
def Gocode_coded.fr261427 : Fr := [(8, .own 3), (9, .own 3), (11, .int .i64), (13, .bx (.st 35)), (80, .sl 35), (81, .int .i64), (82, .int .i64)]
def Gocode_coded.ou261427 : Outs := [(0, [(8, .own 3), (9, .own 3), (11, .int .i64), (80, .sl 35), (81, .int .i64), (82, .int .i64)])]
def Gocode_coded.T261427 (x : Gocode_coded.fr261427.T) (κ : Kp (Tp Gocode_coded.rk) Gocode_coded.ou261427) : Option (Tp Gocode_coded.rk) := Gocode_coded.p261427 x.1 x.2.1 x.2.2.1 x.2.2.2.1 x.2.2.2.2.1 x.2.2.2.2.2.1 x.2.2.2.2.2.2 κ.1
def Gocode_coded.fr2042 : Fr := [(8, .own 3), (9, .own 3), (11, .int .i64), (80, .sl 35), (81, .int .i64), (82, .int .i64)]
def Gocode_coded.ou2042 : Outs := [(3, [])]
def Gocode_coded.T2042 (k : Nat) (x : Gocode_coded.fr2042.T) (κ : Kp (Tp Gocode_coded.rk) Gocode_coded.ou2042) : Option (Tp Gocode_coded.rk) := Gocode_coded.l2042 k x.1 x.2.1 x.2.2.1 x.2.2.2.1 x.2.2.2.2.1 x.2.2.2.2.2 κ.1
def Gocode_coded.Λ0 : Cuts (Tp Gocode_coded.rk) := cutsOf []
def Gocode_coded.Λ1 : Cuts (Tp Gocode_coded.rk) := cutsOf [(122, cut Try.prog Gocode_coded.fr122 Gocode_coded.ou122 (Gocode_coded.T122 NN))]
def Gocode_coded.Λ2 : Cuts (Tp Gocode_coded.rk) := cutsOf [(261427, cut Try.prog Gocode_coded.fr261427 Gocode_coded.ou261427 (Gocode_coded.T261427)), (122, cut Try.prog Gocode_coded.fr122 Gocode_coded.ou122 (Gocode_coded.T122 NN))]
def Gocode_coded.Λ : Cuts (Tp Gocode_coded.rk) := cutsOf [(2042, cut Try.prog Gocode_coded.fr2042 Gocode_coded.ou2042 (Gocode_coded.T2042 NN)), (261427, cut Try.prog Gocode_coded.fr261427 Gocode_coded.ou261427 (Gocode_coded.T261427)), (122, cut Try.prog Gocode_coded.fr122 Gocode_coded.ou122 (Gocode_coded.T122 NN))]
theorem Gocode_coded.c122 (A : Nat → Prop) (w0 : World) : CutOk Try.prog ⟨Try.f40.ntmps, A⟩ w0 (kRet Try.prog Try.f40.results.toList Gocode_coded.rk) (bodyOf Try.f40) 122 (cut Try.prog Gocode_coded.fr122 Gocode_coded.ou122 (Gocode_coded.T122 NN)) :=
  loop_ok Gocode_coded.hρ (Λ := Gocode_coded.Λ0) (cuts_nil) (by kernel_rfl) (D := 64) (b := loopOf Try.f40 122) (by kernel_rfl) (by kernel_rfl) NN (fun x κ => by kernel_rfl) (fun k x κ => by kernel_rfl)
theorem Gocode_coded.c261427 (A : Nat → Prop) (w0 : World) : CutOk Try.prog ⟨Try.f40.ntmps, A⟩ w0 (kRet Try.prog Try.f40.results.toList Gocode_coded.rk) (bodyOf Try.f40) 261427 (cut Try.prog Gocode_coded.fr261427 Gocode_coded.ou261427 (Gocode_coded.T261427)) :=
  cut_ok Gocode_coded.hρ (Λ := Gocode_coded.Λ1) (cuts_cons (Gocode_coded.c122 A w0) (cuts_nil)) (by kernel_rfl) (by kernel_rfl) (D := 64) (c := nodeOf Try.f40 261427) (by kernel_rfl) (by kernel_rfl) (fun x κ => by kernel_rfl)
theorem Gocode_coded.c2042 (A : Nat → Prop) (w0 : World) : CutOk Try.prog ⟨Try.f40.ntmps, A⟩ w0 (kRet Try.prog Try.f40.results.toList Gocode_coded.rk) (bodyOf Try.f40) 2042 (cut Try.prog Gocode_coded.fr2042 Gocode_coded.ou2042 (Gocode_coded.T2042 NN)) :=
  loop_ok Gocode_coded.hρ (Λ := Gocode_coded.Λ2) (cuts_cons (Gocode_coded.c261427 A w0) (cuts_cons (Gocode_coded.c122 A w0) (cuts_nil))) (by kernel_rfl) (D := 64) (b := loopOf Try.f40 2042) (by kernel_rfl) (by kernel_rfl) NN (fun x κ => by kernel_rfl) (fun k x κ => by kernel_rfl)
theorem Gocode_coded.spec : Spec Try.prog 40 Gocode_coded.pk Gocode_coded.rk Gocode_coded.g :=
  spec_of_body (fn := Try.f40) (c := bodyOf Try.f40) (by kernel_rfl) (by kernel_rfl) (by kernel_rfl) (by kernel_rfl) (ρ := Gocode_coded.ρ) Gocode_coded.hρ (Λ := Gocode_coded.Λ) (fun A w0 => cuts_cons (Gocode_coded.c2042 A w0) (cuts_cons (Gocode_coded.c261427 A w0) (cuts_cons (Gocode_coded.c122 A w0) (cuts_nil)))) (fun x => by kernel_rfl)

/-! ### 67 bluebell/ocode.fits -/
def Gocode_fits.p53 (v1 : Int) (v3 : Bool) (v4 : D) (v6 : D) (v10 : Int) (v11 : Bool) (κ0 : (Int × D × D) → Option Bool) : Option Bool :=
  bif v11 then (Gocode_in.f ((v4.cell 1).int) 2 (IntKind.i64.wrap (v1 - 1))).bind fun r1 => bif (!r1) then some false else κ0 (v1, v4, v6) else bif (v10 == 4) then bif decide (((v4.cell 1).int) < 2) then some false else κ0 (v1, v4, v6) else bif (v10 == 23) then (Gocode_in.f ((v4.cell 1).int) 2 (IntKind.i64.wrap (v1 - 3))).bind fun r2 => bif (!r2) then some false else κ0 (v1, v4, v6) else bif (v10 == 18) then bif ((!v3) && (decide (((v4.cell 1).int) > (IntKind.i64.wrap ((IntKind.i64.wrap (v1 + 2000)) + 2))))) then some false else κ0 (v1, v4, v6) else κ0 (v1, v4, v6)
def Gocode_fits.p7 (v1 : Int) (v4 : D) (v6 : D) : Option Bool :=
  some ((((v4.cell 0).int) == 24) || (decide ((IntKind.i64.wrap (v1 - ((v6.cell 2).int))) ≥ 2)))
def Gocode_fits.f (a0 : D) (a1 : Int) (a2 : D) (a3 : Bool) : Option Bool :=
  bif (((a0.cell 0).int) == 2) then Gocode_fits.p53 a1 a3 a0 a2 ((a0.cell 0).int) (((a0.cell 0).int) == 2) (fun y3 => Gocode_fits.p7 y3.1 y3.2.1 y3.2.2) else Gocode_fits.p53 a1 a3 a0 a2 ((a0.cell 0).int) (((a0.cell 0).int) == 3) (fun y4 => Gocode_fits.p7 y4.1 y4.2.1 y4.2.2)
def Gocode_fits.pk : List FK := [.st 35, .int .i64, .st 53, .bool]
def Gocode_fits.rk : List FK := [.bool]
def Gocode_fits.g : Tp Gocode_fits.pk → Option (Tp Gocode_fits.rk) := fun x => Gocode_fits.f x.1 x.2.1 x.2.2.1 x.2.2.2
def Gocode_fits.ρ : List (Entry (Tp Gocode_fits.rk)) := [entry _ Try.prog 88 Gocode_in.pk Gocode_in.rk Gocode_in.g]
theorem Gocode_fits.hρ : ∀ e ∈ Gocode_fits.ρ, EntryOk Try.prog e :=
  ents_cons (ent (fn := Try.f88) Gocode_in.spec (by kernel_rfl) (by kernel_rfl) (by kernel_rfl) (by kernel_rfl)) (ents_nil)
def Gocode_fits.fr53 : Fr := [(1, .int .i64), (3, .bool), (4, .bx (.st 35)), (6, .bx (.st 53)), (10, .int .i64), (11, .bool)]
def Gocode_fits.ou53 : Outs := [(0, [(1, .int .i64), (4, .bx (.st 35)), (6, .bx (.st 53))])]
def Gocode_fits.T53 (x : Gocode_fits.fr53.T) (κ : Kp (Tp Gocode_fits.rk) Gocode_fits.ou53) : Option (Tp Gocode_fits.rk) := Gocode_fits.p53 x.1 x.2.1 x.2.2.1 x.2.2.2.1 x.2.2.2.2.1 x.2.2.2.2.2 κ.1
def Gocode_fits.fr7 : Fr := [(1, .int .i64), (4, .bx (.st 35)), (6, .bx (.st 53))]
def Gocode_fits.ou7 : Outs := []
def Gocode_fits.T7 (x : Gocode_fits.fr7.T) (κ : Kp (Tp Gocode_fits.rk) Gocode_fits.ou7) : Option (Tp Gocode_fits.rk) := Gocode_fits.p7 x.1 x.2.1 x.2.2
def Gocode_fits.Λ0 : Cuts (Tp Gocode_fits.rk) := cutsOf []
def Gocode_fits.Λ1 : Cuts (Tp Gocode_fits.rk) := cutsOf [(53, cut Try.prog Gocode_fits.fr53 Gocode_fits.ou53 (Gocode_fits.T53))]
def Gocode_fits.Λ : Cuts (Tp Gocode_fits.rk) := cutsOf [(7, cut Try.prog Gocode_fits.fr7 Gocode_fits.ou7 (Gocode_fits.T7)), (53, cut Try.prog Gocode_fits.fr53 Gocode_fits.ou53 (Gocode_fits.T53))]
theorem Gocode_fits.c53 (A : Nat → Prop) (w0 : World) : CutOk Try.prog ⟨Try.f67.ntmps, A⟩ w0 (kRet Try.prog Try.f67.results.toList Gocode_fits.rk) (bodyOf Try.f67) 53 (cut Try.prog Gocode_fits.fr53 Gocode_fits.ou53 (Gocode_fits.T53)) :=
  cut_ok Gocode_fits.hρ (Λ := Gocode_fits.Λ0) (cuts_nil) (by kernel_rfl) (by kernel_rfl) (D := 64) (c := nodeOf Try.f67 53) (by kernel_rfl) (by kernel_rfl) (fun x κ => by kernel_rfl)
theorem Gocode_fits.c7 (A : Nat → Prop) (w0 : World) : CutOk Try.prog ⟨Try.f67.ntmps, A⟩ w0 (kRet Try.prog Try.f67.results.toList Gocode_fits.rk) (bodyOf Try.f67) 7 (cut Try.prog Gocode_fits.fr7 Gocode_fits.ou7 (Gocode_fits.T7)) :=
  cut_ok Gocode_fits.hρ (Λ := Gocode_fits.Λ1) (cuts_cons (Gocode_fits.c53 A w0) (cuts_nil)) (by kernel_rfl) (by kernel_rfl) (D := 64) (c := nodeOf Try.f67 7) (by kernel_rfl) (by kernel_rfl) (fun x κ => by kernel_rfl)
theorem Gocode_fits.spec : Spec Try.prog 67 Gocode_fits.pk Gocode_fits.rk Gocode_fits.g :=
  spec_of_body (fn := Try.f67) (c := bodyOf Try.f67) (by kernel_rfl) (by kernel_rfl) (by kernel_rfl) (by kernel_rfl) (ρ := Gocode_fits.ρ) Gocode_fits.hρ (Λ := Gocode_fits.Λ) (fun A w0 => cuts_cons (Gocode_fits.c7 A w0) (cuts_cons (Gocode_fits.c53 A w0) (cuts_nil))) (fun x => by kernel_rfl)

/-! ### 37 bluebell/ocode.after -/
def Gocode_after.p53 (v3 : D) : Option Int :=
  some (IntKind.i64.wrap (((v3.cell 1).int) + 1))
def Gocode_after.p7 (v1 : Int) (v5 : D) : Option Int :=
  some (IntKind.i64.wrap ((IntKind.i64.wrap (v1 - ((v5.cell 2).int))) + ((v5.cell 3).int)))
def Gocode_after.f (a0 : D) (a1 : Int) (a2 : D) : Option Int :=
  bif (((a0.cell 0).int) == 18) then some ((a0.cell 1).int) else bif (((a0.cell 0).int) == 24) then some (IntKind.i64.wrap (2 + ((a0.cell 2).int))) else bif (((a0.cell 0).int) == 23) then Gocode_after.p53 a0 else bif (((a0.cell 0).int) == 28) then Gocode_after.p53 a0 else Gocode_after.p7 a1 a2
def Gocode_after.pk : List FK := [.st 35, .int .i64, .st 53]
def Gocode_after.rk : List FK := [.int .i64]
def Gocode_after.g : Tp Gocode_after.pk → Option (Tp Gocode_after.rk) := fun x => Gocode_after.f x.1 x.2.1 x.2.2
def Gocode_after.ρ : List (Entry (Tp Gocode_after.rk)) := []
theorem Gocode_after.hρ : ∀ e ∈ Gocode_after.ρ, EntryOk Try.prog e :=
  ents_nil
def Gocode_after.fr53 : Fr := [(3, .bx (.st 35))]
def Gocode_after.ou53 : Outs := []
def Gocode_after.T53 (x : Gocode_after.fr53.T) (κ : Kp (Tp Gocode_after.rk) Gocode_after.ou53) : Option (Tp Gocode_after.rk) := Gocode_after.p53 x
def Gocode_after.fr7 : Fr := [(1, .int .i64), (5, .bx (.st 53))]
def Gocode_after.ou7 : Outs := []
def Gocode_after.T7 (x : Gocode_after.fr7.T) (κ : Kp (Tp Gocode_after.rk) Gocode_after.ou7) : Option (Tp Gocode_after.rk) := Gocode_after.p7 x.1 x.2
def Gocode_after.Λ0 : Cuts (Tp Gocode_after.rk) := cutsOf []
def Gocode_after.Λ1 : Cuts (Tp Gocode_after.rk) := cutsOf [(53, cut Try.prog Gocode_after.fr53 Gocode_after.ou53 (Gocode_after.T53))]
def Gocode_after.Λ : Cuts (Tp Gocode_after.rk) := cutsOf [(7, cut Try.prog Gocode_after.fr7 Gocode_after.ou7 (Gocode_after.T7)), (53, cut Try.prog Gocode_after.fr53 Gocode_after.ou53 (Gocode_after.T53))]
theorem Gocode_after.c53 (A : Nat → Prop) (w0 : World) : CutOk Try.prog ⟨Try.f37.ntmps, A⟩ w0 (kRet Try.prog Try.f37.results.toList Gocode_after.rk) (bodyOf Try.f37) 53 (cut Try.prog Gocode_after.fr53 Gocode_after.ou53 (Gocode_after.T53)) :=
  cut_ok Gocode_after.hρ (Λ := Gocode_after.Λ0) (cuts_nil) (by kernel_rfl) (by kernel_rfl) (D := 64) (c := nodeOf Try.f37 53) (by kernel_rfl) (by kernel_rfl) (fun x κ => by kernel_rfl)
theorem Gocode_after.c7 (A : Nat → Prop) (w0 : World) : CutOk Try.prog ⟨Try.f37.ntmps, A⟩ w0 (kRet Try.prog Try.f37.results.toList Gocode_after.rk) (bodyOf Try.f37) 7 (cut Try.prog Gocode_after.fr7 Gocode_after.ou7 (Gocode_after.T7)) :=
  cut_ok Gocode_after.hρ (Λ := Gocode_after.Λ1) (cuts_cons (Gocode_after.c53 A w0) (cuts_nil)) (by kernel_rfl) (by kernel_rfl) (D := 64) (c := nodeOf Try.f37 7) (by kernel_rfl) (by kernel_rfl) (fun x κ => by kernel_rfl)
theorem Gocode_after.spec : Spec Try.prog 37 Gocode_after.pk Gocode_after.rk Gocode_after.g :=
  spec_of_body (fn := Try.f37) (c := bodyOf Try.f37) (by kernel_rfl) (by kernel_rfl) (by kernel_rfl) (by kernel_rfl) (ρ := Gocode_after.ρ) Gocode_after.hρ (Λ := Gocode_after.Λ) (fun A w0 => cuts_cons (Gocode_after.c7 A w0) (cuts_cons (Gocode_after.c53 A w0) (cuts_nil))) (fun x => by kernel_rfl)

/-! ### 68 bluebell/ocode.leads -/
def Gocode_leads.l12 : Nat → (List D) → Int → (Int → Option Int) → Option Int
  | 0, _, _, _ => none
  | k + 1, v0, v1, κ1 =>
    gd (inB v1 v0.length) (bif ((((rd v0 v1.toNat).cell 0).int) == 19) then Gocode_leads.l12 k v0 (IntKind.i64.wrap (v1 + 1)) κ1 else κ1 v1)
def Gocode_leads.f (a0 : List D) (a1 : Int) : Option Int :=
  Gocode_leads.l12 NN a0 a1 (fun y1 => some y1)
def Gocode_leads.pk : List FK := [.sl 35, .int .i64]
def Gocode_leads.rk : List FK := [.int .i64]
def Gocode_leads.g : Tp Gocode_leads.pk → Option (Tp Gocode_leads.rk) := fun x => Gocode_leads.f x.1 x.2
def Gocode_leads.ρ : List (Entry (Tp Gocode_leads.rk)) := []
theorem Gocode_leads.hρ : ∀ e ∈ Gocode_leads.ρ, EntryOk Try.prog e :=
  ents_nil
def Gocode_leads.fr12 : Fr := [(0, .sl 35), (1, .int .i64)]
def Gocode_leads.ou12 : Outs := [(1, [(1, .int .i64)])]
def Gocode_leads.T12 (k : Nat) (x : Gocode_leads.fr12.T) (κ : Kp (Tp Gocode_leads.rk) Gocode_leads.ou12) : Option (Tp Gocode_leads.rk) := Gocode_leads.l12 k x.1 x.2 κ.1
def Gocode_leads.Λ0 : Cuts (Tp Gocode_leads.rk) := cutsOf []
def Gocode_leads.Λ : Cuts (Tp Gocode_leads.rk) := cutsOf [(12, cut Try.prog Gocode_leads.fr12 Gocode_leads.ou12 (Gocode_leads.T12 NN))]
theorem Gocode_leads.c12 (A : Nat → Prop) (w0 : World) : CutOk Try.prog ⟨Try.f68.ntmps, A⟩ w0 (kRet Try.prog Try.f68.results.toList Gocode_leads.rk) (bodyOf Try.f68) 12 (cut Try.prog Gocode_leads.fr12 Gocode_leads.ou12 (Gocode_leads.T12 NN)) :=
  loop_ok Gocode_leads.hρ (Λ := Gocode_leads.Λ0) (cuts_nil) (by kernel_rfl) (D := 64) (b := loopOf Try.f68 12) (by kernel_rfl) (by kernel_rfl) NN (fun x κ => by kernel_rfl) (fun k x κ => by kernel_rfl)
theorem Gocode_leads.spec : Spec Try.prog 68 Gocode_leads.pk Gocode_leads.rk Gocode_leads.g :=
  spec_of_body (fn := Try.f68) (c := bodyOf Try.f68) (by kernel_rfl) (by kernel_rfl) (by kernel_rfl) (by kernel_rfl) (ρ := Gocode_leads.ρ) Gocode_leads.hρ (Λ := Gocode_leads.Λ) (fun A w0 => cuts_cons (Gocode_leads.c12 A w0) (cuts_nil)) (fun x => by kernel_rfl)

/-! ### 41 bluebell/ocode.stacked -/
def Gocode_stacked.l250 : Nat → D → (List D) → (List D) → Int → (List D) → Int → Int → (Unit → Option Bool) → Option Bool
  | 0, _, _, _, _, _, _, _, _ => none
  | k + 1, v1, v3, v4, v7, v19, v20, v21, κ1 =>
    bif decide (v21 < v20) then gd (inB v21 v19.length) (gd (inB (((rd v19 v21.toNat).cell 0).int) 31 && inB (((rd v19 v21.toNat).cell 0).int) v3.length) (gd (Nat.blt (((rd v19 v21.toNat).cell 0).int).toNat v3.length) (gd ((!(decide (v21 > 0))) || (inB (IntKind.i64.wrap (v21 - 1)) ((v1.cell 2).list).length)) ((Gocode_fits.f (rd v19 v21.toNat) v7 (rd v3 (((rd v19 v21.toNat).cell 0).int).toNat) ((decide (v21 > 0)) && ((((rd ((v1.cell 2).list) (IntKind.i64.wrap (v21 - 1)).toNat).cell 0).int) == 19))).bind fun r3 => bif (!r3) then some false else gd (inB (((rd v19 v21.toNat).cell 0).int) 31 && inB (((rd v19 v21.toNat).cell 0).int) v3.length) (gd (Nat.blt (((rd v19 v21.toNat).cell 0).int).toNat v3.length) ((Gocode_after.f (rd v19 v21.toNat) v7 (rd v3 (((rd v19 v21.toNat).cell 0).int).toNat)).bind fun r4 => bif ((decide (r4 < 2)) || (decide (r4 > 4000))) then some false else (Gocode_Named.f (rd v19 v21.toNat)).bind fun r5 => gd ((!(decide (r5 > 0))) || (inB r5 v4.length)) (gd ((!(decide (r5 > 0))) || (Nat.blt r5.toNat v4.length)) ((bif (decide (r5 > 0)) then Gocode_leads.f ((v1.cell 2).list) ((rd v4 r5.toNat).int) else some 0).bind fun r6 => gd ((!(decide (r5 > 0))) || (inB r6 ((v1.cell 2).list).length)) (bif ((decide (r5 > 0)) && (!(((((rd ((v1.cell 2).list) r6.toNat).cell 0).int) == 28) == ((((rd v19 v21.toNat).cell 0).int) == 27)))) then some false else (bif ((((rd v19 v21.toNat).cell 0).int) != 19) then Gocode_Ends.f ((v1.cell 2).list) v21 else some false).bind fun r7 => (bif ((((((rd v19 v21.toNat).cell 0).int) != 19) && (!r7)) && (decide ((IntKind.i64.wrap (v21 + 1)) < (((v1.cell 2).list).length : Int)))) then Gocode_leads.f ((v1.cell 2).list) (IntKind.i64.wrap (v21 + 1)) else some 0).bind fun r8 => gd ((!((((((rd v19 v21.toNat).cell 0).int) != 19) && (!r7)) && (decide ((IntKind.i64.wrap (v21 + 1)) < (((v1.cell 2).list).length : Int))))) || (inB r8 ((v1.cell 2).list).length)) (bif (((((((rd v19 v21.toNat).cell 0).int) != 19) && (!r7)) && (decide ((IntKind.i64.wrap (v21 + 1)) < (((v1.cell 2).list).length : Int)))) && ((((rd ((v1.cell 2).list) r8.toNat).cell 0).int) == 28)) then some false else Gocode_stacked.l250 k v1 v3 v4 r4 v19 v20 (IntKind.i64.wrap (v21 + 1)) κ1)))))))))) else κ1 ()
def Gocode_stacked.f (a0 : D) : Option Bool :=
  (Gocode_kinds.f).bind fun r1 => gd (Nat.beq (r1 : List D).length ((List.replicate 31 (.r [.s ByteArray.empty, .i 0, .i 0, .i 0] : D)) : List D).length && Nat.beq (r1 : List D).length 31) ((Gocode_places.f a0).bind fun r2 => Gocode_stacked.l250 NN a0 r1 r2.1 0 ((a0.cell 2).list) (((a0.cell 2).list).length : Int) 0 (fun y9 => some true))
def Gocode_stacked.pk : List FK := [.st 26]
def Gocode_stacked.rk : List FK := [.bool]
def Gocode_stacked.g : Tp Gocode_stacked.pk → Option (Tp Gocode_stacked.rk) := fun x => Gocode_stacked.f x
def Gocode_stacked.ρ : List (Entry (Tp Gocode_stacked.rk)) := [entry _ Try.prog 36 Gocode_kinds.pk Gocode_kinds.rk Gocode_kinds.g, entry _ Try.prog 64 Gocode_places.pk Gocode_places.rk Gocode_places.g, entry _ Try.prog 67 Gocode_fits.pk Gocode_fits.rk Gocode_fits.g, entry _ Try.prog 37 Gocode_after.pk Gocode_after.rk Gocode_after.g, entry _ Try.prog 35 Gocode_Named.pk Gocode_Named.rk Gocode_Named.g, entry _ Try.prog 68 Gocode_leads.pk Gocode_leads.rk Gocode_leads.g, entry _ Try.prog 69 Gocode_Ends.pk Gocode_Ends.rk Gocode_Ends.g]
theorem Gocode_stacked.hρ : ∀ e ∈ Gocode_stacked.ρ, EntryOk Try.prog e :=
  ents_cons (ent (fn := Try.f36) Gocode_kinds.spec (by kernel_rfl) (by kernel_rfl) (by kernel_rfl) (by kernel_rfl)) (ents_cons (ent (fn := Try.f64) Gocode_places.spec (by kernel_rfl) (by kernel_rfl) (by kernel_rfl) (by kernel_rfl)) (ents_cons (ent (fn := Try.f67) Gocode_fits.spec (by kernel_rfl) (by kernel_rfl) (by kernel_rfl) (by kernel_rfl)) (ents_cons (ent (fn := Try.f37) Gocode_after.spec (by kernel_rfl) (by kernel_rfl) (by kernel_rfl) (by kernel_rfl)) (ents_cons (ent (fn := Try.f35) Gocode_Named.spec (by kernel_rfl) (by kernel_rfl) (by kernel_rfl) (by kernel_rfl)) (ents_cons (ent (fn := Try.f68) Gocode_leads.spec (by kernel_rfl) (by kernel_rfl) (by kernel_rfl) (by kernel_rfl)) (ents_cons (ent (fn := Try.f69) Gocode_Ends.spec (by kernel_rfl) (by kernel_rfl) (by kernel_rfl) (by kernel_rfl)) (ents_nil)))))))
def Gocode_stacked.fr250 : Fr := [(1, .bx (.st 26)), (3, .arr 53), (4, .own 3), (7, .int .i64), (19, .sl 35), (20, .int .i64), (21, .int .i64)]
def Gocode_stacked.ou250 : Outs := [(1, [])]
def Gocode_stacked.T250 (k : Nat) (x : Gocode_stacked.fr250.T) (κ : Kp (Tp Gocode_stacked.rk) Gocode_stacked.ou250) : Option (Tp Gocode_stacked.rk) := Gocode_stacked.l250 k x.1 x.2.1 x.2.2.1 x.2.2.2.1 x.2.2.2.2.1 x.2.2.2.2.2.1 x.2.2.2.2.2.2 κ.1
def Gocode_stacked.Λ0 : Cuts (Tp Gocode_stacked.rk) := cutsOf []
def Gocode_stacked.Λ : Cuts (Tp Gocode_stacked.rk) := cutsOf [(250, cut Try.prog Gocode_stacked.fr250 Gocode_stacked.ou250 (Gocode_stacked.T250 NN))]
theorem Gocode_stacked.c250 (A : Nat → Prop) (w0 : World) : CutOk Try.prog ⟨Try.f41.ntmps, A⟩ w0 (kRet Try.prog Try.f41.results.toList Gocode_stacked.rk) (bodyOf Try.f41) 250 (cut Try.prog Gocode_stacked.fr250 Gocode_stacked.ou250 (Gocode_stacked.T250 NN)) :=
  loop_ok Gocode_stacked.hρ (Λ := Gocode_stacked.Λ0) (cuts_nil) (by kernel_rfl) (D := 64) (b := loopOf Try.f41 250) (by kernel_rfl) (by kernel_rfl) NN (fun x κ => by kernel_rfl) (fun k x κ => by kernel_rfl)
theorem Gocode_stacked.spec : Spec Try.prog 41 Gocode_stacked.pk Gocode_stacked.rk Gocode_stacked.g :=
  spec_of_body (fn := Try.f41) (c := bodyOf Try.f41) (by kernel_rfl) (by kernel_rfl) (by kernel_rfl) (by kernel_rfl) (ρ := Gocode_stacked.ρ) Gocode_stacked.hρ (Λ := Gocode_stacked.Λ) (fun A w0 => cuts_cons (Gocode_stacked.c250 A w0) (cuts_nil)) (fun x => by kernel_rfl)

/-! ### 20 bluebell/ocode.Check -/
def Gocode_Check.f (a0 : D) : Option Int :=
  (Gocode_large.f a0).bind fun r1 => bif r1 then some 2 else (Gocode_coded.f a0).bind fun r2 => bif (!r2) then some 60 else (Gocode_stacked.f a0).bind fun r3 => bif (!r3) then some 61 else some 0
def Gocode_Check.pk : List FK := [.st 26]
def Gocode_Check.rk : List FK := [.int .i64]
def Gocode_Check.g : Tp Gocode_Check.pk → Option (Tp Gocode_Check.rk) := fun x => Gocode_Check.f x
def Gocode_Check.ρ : List (Entry (Tp Gocode_Check.rk)) := [entry _ Try.prog 39 Gocode_large.pk Gocode_large.rk Gocode_large.g, entry _ Try.prog 40 Gocode_coded.pk Gocode_coded.rk Gocode_coded.g, entry _ Try.prog 41 Gocode_stacked.pk Gocode_stacked.rk Gocode_stacked.g]
theorem Gocode_Check.hρ : ∀ e ∈ Gocode_Check.ρ, EntryOk Try.prog e :=
  ents_cons (ent (fn := Try.f39) Gocode_large.spec (by kernel_rfl) (by kernel_rfl) (by kernel_rfl) (by kernel_rfl)) (ents_cons (ent (fn := Try.f40) Gocode_coded.spec (by kernel_rfl) (by kernel_rfl) (by kernel_rfl) (by kernel_rfl)) (ents_cons (ent (fn := Try.f41) Gocode_stacked.spec (by kernel_rfl) (by kernel_rfl) (by kernel_rfl) (by kernel_rfl)) (ents_nil)))
def Gocode_Check.Λ : Cuts (Tp Gocode_Check.rk) := cutsOf []
theorem Gocode_Check.spec : Spec Try.prog 20 Gocode_Check.pk Gocode_Check.rk Gocode_Check.g :=
  spec_of_body (fn := Try.f20) (c := bodyOf Try.f20) (by kernel_rfl) (by kernel_rfl) (by kernel_rfl) (by kernel_rfl) (ρ := Gocode_Check.ρ) Gocode_Check.hρ (Λ := Gocode_Check.Λ) (fun A w0 => cuts_nil) (fun x => by kernel_rfl)

/-! ### 16 bluebell/ocode.Depths -/
def Gocode_Depths.p130355 (v5 : List D) (v6 : List D) (v7 : Int) (v9 : D) (v17 : List D) (v18 : Int) (v19 : Int) (κ0 : (List D × List D × Int × List D × Int × Int) → Option (List D × Int)) : Option (List D × Int) :=
  gd (Nat.ble (v6.length + ([.i v7] : List D).length) lim) (gd (inB ((v9.cell 0).int) 31 && inB ((v9.cell 0).int) v5.length) (gd (Nat.blt ((v9.cell 0).int).toNat v5.length) ((Gocode_after.f v9 v7 (rd v5 ((v9.cell 0).int).toNat)).bind fun r3 => κ0 (v5, (v6 ++ ([.i v7] : List D)), r3, v17, v18, v19))))
def Gocode_Depths.l1018 : Nat → (List D) → (List D) → Int → (List D) → Int → Int → (List D → Option (List D × Int)) → Option (List D × Int)
  | 0, _, _, _, _, _, _, _ => none
  | k + 1, v5, v6, v7, v17, v18, v19, κ1 =>
    bif decide (v19 < v18) then gd (inB v19 v17.length) (bif ((((rd v17 v19.toNat).cell 0).int) == 24) then Gocode_Depths.p130355 v5 v6 0 (rd v17 v19.toNat) v17 v18 v19 (fun y4 => Gocode_Depths.l1018 k y4.1 y4.2.1 y4.2.2.1 y4.2.2.2.1 y4.2.2.2.2.1 (IntKind.i64.wrap (y4.2.2.2.2.2 + 1)) κ1) else Gocode_Depths.p130355 v5 v6 v7 (rd v17 v19.toNat) v17 v18 v19 (fun y5 => Gocode_Depths.l1018 k y5.1 y5.2.1 y5.2.2.1 y5.2.2.2.1 y5.2.2.2.2.1 (IntKind.i64.wrap (y5.2.2.2.2.2 + 1)) κ1)) else κ1 v6
def Gocode_Depths.f (a0 : D) : Option (List D × Int) :=
  (Gocode_Check.f a0).bind fun r1 => bif (r1 != 0) then some ([], r1) else (Gocode_kinds.f).bind fun r2 => gd (Nat.beq (r2 : List D).length ((List.replicate 31 (.r [.s ByteArray.empty, .i 0, .i 0, .i 0] : D)) : List D).length && Nat.beq (r2 : List D).length 31) (Gocode_Depths.l1018 NN r2 [] 0 ((a0.cell 2).list) (((a0.cell 2).list).length : Int) 0 (fun y6 => some (y6, 0)))
def Gocode_Depths.pk : List FK := [.st 26]
def Gocode_Depths.rk : List FK := [.own 3, .int .i64]
def Gocode_Depths.g : Tp Gocode_Depths.pk → Option (Tp Gocode_Depths.rk) := fun x => Gocode_Depths.f x
def Gocode_Depths.ρ : List (Entry (Tp Gocode_Depths.rk)) := [entry _ Try.prog 20 Gocode_Check.pk Gocode_Check.rk Gocode_Check.g, entry _ Try.prog 36 Gocode_kinds.pk Gocode_kinds.rk Gocode_kinds.g, entry _ Try.prog 37 Gocode_after.pk Gocode_after.rk Gocode_after.g]
theorem Gocode_Depths.hρ : ∀ e ∈ Gocode_Depths.ρ, EntryOk Try.prog e :=
  ents_cons (ent (fn := Try.f20) Gocode_Check.spec (by kernel_rfl) (by kernel_rfl) (by kernel_rfl) (by kernel_rfl)) (ents_cons (ent (fn := Try.f36) Gocode_kinds.spec (by kernel_rfl) (by kernel_rfl) (by kernel_rfl) (by kernel_rfl)) (ents_cons (ent (fn := Try.f37) Gocode_after.spec (by kernel_rfl) (by kernel_rfl) (by kernel_rfl) (by kernel_rfl)) (ents_nil)))
def Gocode_Depths.fr130355 : Fr := [(5, .arr 53), (6, .own 3), (7, .int .i64), (9, .bx (.st 35)), (17, .sl 35), (18, .int .i64), (19, .int .i64)]
def Gocode_Depths.ou130355 : Outs := [(0, [(5, .arr 53), (6, .own 3), (7, .int .i64), (17, .sl 35), (18, .int .i64), (19, .int .i64)])]
def Gocode_Depths.T130355 (x : Gocode_Depths.fr130355.T) (κ : Kp (Tp Gocode_Depths.rk) Gocode_Depths.ou130355) : Option (Tp Gocode_Depths.rk) := Gocode_Depths.p130355 x.1 x.2.1 x.2.2.1 x.2.2.2.1 x.2.2.2.2.1 x.2.2.2.2.2.1 x.2.2.2.2.2.2 κ.1
def Gocode_Depths.fr1018 : Fr := [(5, .arr 53), (6, .own 3), (7, .int .i64), (17, .sl 35), (18, .int .i64), (19, .int .i64)]
def Gocode_Depths.ou1018 : Outs := [(1, [(6, .own 3)])]
def Gocode_Depths.T1018 (k : Nat) (x : Gocode_Depths.fr1018.T) (κ : Kp (Tp Gocode_Depths.rk) Gocode_Depths.ou1018) : Option (Tp Gocode_Depths.rk) := Gocode_Depths.l1018 k x.1 x.2.1 x.2.2.1 x.2.2.2.1 x.2.2.2.2.1 x.2.2.2.2.2 κ.1
def Gocode_Depths.Λ0 : Cuts (Tp Gocode_Depths.rk) := cutsOf []
def Gocode_Depths.Λ1 : Cuts (Tp Gocode_Depths.rk) := cutsOf [(130355, cut Try.prog Gocode_Depths.fr130355 Gocode_Depths.ou130355 (Gocode_Depths.T130355))]
def Gocode_Depths.Λ : Cuts (Tp Gocode_Depths.rk) := cutsOf [(1018, cut Try.prog Gocode_Depths.fr1018 Gocode_Depths.ou1018 (Gocode_Depths.T1018 NN)), (130355, cut Try.prog Gocode_Depths.fr130355 Gocode_Depths.ou130355 (Gocode_Depths.T130355))]
theorem Gocode_Depths.c130355 (A : Nat → Prop) (w0 : World) : CutOk Try.prog ⟨Try.f16.ntmps, A⟩ w0 (kRet Try.prog Try.f16.results.toList Gocode_Depths.rk) (bodyOf Try.f16) 130355 (cut Try.prog Gocode_Depths.fr130355 Gocode_Depths.ou130355 (Gocode_Depths.T130355)) :=
  cut_ok Gocode_Depths.hρ (Λ := Gocode_Depths.Λ0) (cuts_nil) (by kernel_rfl) (by kernel_rfl) (D := 64) (c := nodeOf Try.f16 130355) (by kernel_rfl) (by kernel_rfl) (fun x κ => by kernel_rfl)
theorem Gocode_Depths.c1018 (A : Nat → Prop) (w0 : World) : CutOk Try.prog ⟨Try.f16.ntmps, A⟩ w0 (kRet Try.prog Try.f16.results.toList Gocode_Depths.rk) (bodyOf Try.f16) 1018 (cut Try.prog Gocode_Depths.fr1018 Gocode_Depths.ou1018 (Gocode_Depths.T1018 NN)) :=
  loop_ok Gocode_Depths.hρ (Λ := Gocode_Depths.Λ1) (cuts_cons (Gocode_Depths.c130355 A w0) (cuts_nil)) (by kernel_rfl) (D := 64) (b := loopOf Try.f16 1018) (by kernel_rfl) (by kernel_rfl) NN (fun x κ => by kernel_rfl) (fun k x κ => by kernel_rfl)
theorem Gocode_Depths.spec : Spec Try.prog 16 Gocode_Depths.pk Gocode_Depths.rk Gocode_Depths.g :=
  spec_of_body (fn := Try.f16) (c := bodyOf Try.f16) (by kernel_rfl) (by kernel_rfl) (by kernel_rfl) (by kernel_rfl) (ρ := Gocode_Depths.ρ) Gocode_Depths.hρ (Λ := Gocode_Depths.Λ) (fun A w0 => cuts_cons (Gocode_Depths.c1018 A w0) (cuts_cons (Gocode_Depths.c130355 A w0) (cuts_nil))) (fun x => by kernel_rfl)

/-! ### 19 bluebell/bluebellref00.EqInts -/
def Gr00_EqInts.l58 : Nat → (List D) → (List D) → Int → (Unit → Option Bool) → Option Bool
  | 0, _, _, _, _ => none
  | k + 1, v0, v1, v5, κ1 =>
    bif decide (v5 < (v0.length : Int)) then gd (inB v5 v0.length) (gd (inB v5 v1.length) (bif (((rd v0 v5.toNat).int) != ((rd v1 v5.toNat).int)) then some false else Gr00_EqInts.l58 k v0 v1 (IntKind.i64.wrap (v5 + 1)) κ1)) else κ1 ()
def Gr00_EqInts.f (a0 : List D) (a1 : List D) : Option Bool :=
  bif ((a0.length : Int) != (a1.length : Int)) then some false else Gr00_EqInts.l58 NN a0 a1 0 (fun y1 => some true)
def Gr00_EqInts.pk : List FK := [.sl 3, .sl 3]
def Gr00_EqInts.rk : List FK := [.bool]
def Gr00_EqInts.g : Tp Gr00_EqInts.pk → Option (Tp Gr00_EqInts.rk) := fun x => Gr00_EqInts.f x.1 x.2
def Gr00_EqInts.ρ : List (Entry (Tp Gr00_EqInts.rk)) := []
theorem Gr00_EqInts.hρ : ∀ e ∈ Gr00_EqInts.ρ, EntryOk Try.prog e :=
  ents_nil
def Gr00_EqInts.fr58 : Fr := [(0, .sl 3), (1, .sl 3), (5, .int .i64)]
def Gr00_EqInts.ou58 : Outs := [(1, [])]
def Gr00_EqInts.T58 (k : Nat) (x : Gr00_EqInts.fr58.T) (κ : Kp (Tp Gr00_EqInts.rk) Gr00_EqInts.ou58) : Option (Tp Gr00_EqInts.rk) := Gr00_EqInts.l58 k x.1 x.2.1 x.2.2 κ.1
def Gr00_EqInts.Λ0 : Cuts (Tp Gr00_EqInts.rk) := cutsOf []
def Gr00_EqInts.Λ : Cuts (Tp Gr00_EqInts.rk) := cutsOf [(58, cut Try.prog Gr00_EqInts.fr58 Gr00_EqInts.ou58 (Gr00_EqInts.T58 NN))]
theorem Gr00_EqInts.c58 (A : Nat → Prop) (w0 : World) : CutOk Try.prog ⟨Try.f19.ntmps, A⟩ w0 (kRet Try.prog Try.f19.results.toList Gr00_EqInts.rk) (bodyOf Try.f19) 58 (cut Try.prog Gr00_EqInts.fr58 Gr00_EqInts.ou58 (Gr00_EqInts.T58 NN)) :=
  loop_ok Gr00_EqInts.hρ (Λ := Gr00_EqInts.Λ0) (cuts_nil) (by kernel_rfl) (D := 64) (b := loopOf Try.f19 58) (by kernel_rfl) (by kernel_rfl) NN (fun x κ => by kernel_rfl) (fun k x κ => by kernel_rfl)
theorem Gr00_EqInts.spec : Spec Try.prog 19 Gr00_EqInts.pk Gr00_EqInts.rk Gr00_EqInts.g :=
  spec_of_body (fn := Try.f19) (c := bodyOf Try.f19) (by kernel_rfl) (by kernel_rfl) (by kernel_rfl) (by kernel_rfl) (ρ := Gr00_EqInts.ρ) Gr00_EqInts.hρ (Λ := Gr00_EqInts.Λ) (fun A w0 => cuts_cons (Gr00_EqInts.c58 A w0) (cuts_nil)) (fun x => by kernel_rfl)

/-! ### 13 bluebell/bluebelllaw06.awake -/
def Gw06_awake.f : Option Bool :=
  (Gocode_Depths.f (.r [.s ByteArray.empty, .l [], .l ([.r [.i 24, .i 1, .i 0], .r [.i 1, .i 65, .i 0], .r [.i 25, .i 0, .i 0]] : List D), .l [], .i 1, .i 0])).bind fun r1 => (bif (r1.2 == 0) then Gr00_EqInts.f r1.1 ([.i 0, .i 2, .i 3] : List D) else some false).bind fun r2 => some ((r1.2 == 0) && r2)
def Gw06_awake.pk : List FK := []
def Gw06_awake.rk : List FK := [.bool]
def Gw06_awake.g : Tp Gw06_awake.pk → Option (Tp Gw06_awake.rk) := fun _ => Gw06_awake.f
def Gw06_awake.ρ : List (Entry (Tp Gw06_awake.rk)) := [entry _ Try.prog 16 Gocode_Depths.pk Gocode_Depths.rk Gocode_Depths.g, entry _ Try.prog 19 Gr00_EqInts.pk Gr00_EqInts.rk Gr00_EqInts.g]
theorem Gw06_awake.hρ : ∀ e ∈ Gw06_awake.ρ, EntryOk Try.prog e :=
  ents_cons (ent (fn := Try.f16) Gocode_Depths.spec (by kernel_rfl) (by kernel_rfl) (by kernel_rfl) (by kernel_rfl)) (ents_cons (ent (fn := Try.f19) Gr00_EqInts.spec (by kernel_rfl) (by kernel_rfl) (by kernel_rfl) (by kernel_rfl)) (ents_nil))
def Gw06_awake.Λ : Cuts (Tp Gw06_awake.rk) := cutsOf []
theorem Gw06_awake.spec : Spec Try.prog 13 Gw06_awake.pk Gw06_awake.rk Gw06_awake.g :=
  spec_of_body (fn := Try.f13) (c := bodyOf Try.f13) (by kernel_rfl) (by kernel_rfl) (by kernel_rfl) (by kernel_rfl) (ρ := Gw06_awake.ρ) Gw06_awake.hρ (Λ := Gw06_awake.Λ) (fun A w0 => cuts_nil) (fun x => by kernel_rfl)

/-! ### 61 bluebell/bluebellref00.CopyInts -/
def Gr00_CopyInts.f (a0 : List D) : Option (List D) :=
  gd (Nat.ble (([] : List D).length + a0.length) lim) (some (([] : List D) ++ a0))
def Gr00_CopyInts.pk : List FK := [.sl 3]
def Gr00_CopyInts.rk : List FK := [.own 3]
def Gr00_CopyInts.g : Tp Gr00_CopyInts.pk → Option (Tp Gr00_CopyInts.rk) := fun x => Gr00_CopyInts.f x
def Gr00_CopyInts.ρ : List (Entry (Tp Gr00_CopyInts.rk)) := []
theorem Gr00_CopyInts.hρ : ∀ e ∈ Gr00_CopyInts.ρ, EntryOk Try.prog e :=
  ents_nil
def Gr00_CopyInts.Λ : Cuts (Tp Gr00_CopyInts.rk) := cutsOf []
theorem Gr00_CopyInts.spec : Spec Try.prog 61 Gr00_CopyInts.pk Gr00_CopyInts.rk Gr00_CopyInts.g :=
  spec_of_body (fn := Try.f61) (c := bodyOf Try.f61) (by kernel_rfl) (by kernel_rfl) (by kernel_rfl) (by kernel_rfl) (ρ := Gr00_CopyInts.ρ) Gr00_CopyInts.hρ (Λ := Gr00_CopyInts.Λ) (fun A w0 => cuts_nil) (fun x => by kernel_rfl)

/-! ### 38 bluebell/bluebellref00.CopyCode -/
def Gr00_CopyCode.l58 : Nat → D → D → (List D) → Int → ((D × D × List D) → Option (ByteArray × List D × List D × List D × Int × Int × Unit)) → Option (ByteArray × List D × List D × List D × Int × Int × Unit)
  | 0, _, _, _, _, _ => none
  | k + 1, v1, v2, v3, v4, κ1 =>
    bif decide (v4 < (((v1.cell 1).list).length : Int)) then gd (inB v4 ((v1.cell 1).list).length) ((Gr00_CopyInts.f (((rd ((v1.cell 1).list) v4.toNat).cell 2).list)).bind fun r1 => gd (Nat.ble (v3.length + ([.r [.s (((rd ((v1.cell 1).list) v4.toNat).cell 0).str), .b (((rd ((v1.cell 1).list) v4.toNat).cell 1).bool), .l r1]] : List D).length) lim) (Gr00_CopyCode.l58 k v1 v2 (v3 ++ ([.r [.s (((rd ((v1.cell 1).list) v4.toNat).cell 0).str), .b (((rd ((v1.cell 1).list) v4.toNat).cell 1).bool), .l r1]] : List D)) (IntKind.i64.wrap (v4 + 1)) κ1)) else κ1 (v1, v2, v3)
def Gr00_CopyCode.f (a0 : D) : Option (ByteArray × List D × List D × List D × Int × Int × Unit) :=
  Gr00_CopyCode.l58 NN a0 (.r [.s ByteArray.empty, .l [], .l [], .l [], .i 0, .i 0]) [] 0 (fun y2 => gd (Nat.ble (([] : List D).length + ((y2.1.cell 2).list).length) lim) (gd (Nat.ble (([] : List D).length + ((y2.1.cell 3).list).length) lim) (some ((y2.1.cell 0).str, y2.2.2, (([] : List D) ++ ((y2.1.cell 2).list)), (([] : List D) ++ ((y2.1.cell 3).list)), (y2.1.cell 4).int, (y2.1.cell 5).int, ()))))
def Gr00_CopyCode.pk : List FK := [.st 26]
def Gr00_CopyCode.rk : List FK := [.cn (.str) (.cn (.own 47) (.cn (.own 35) (.cn (.own 68) (.cn (.int .i64) (.cn (.int .i64) (.ce))))))]
def Gr00_CopyCode.g : Tp Gr00_CopyCode.pk → Option (Tp Gr00_CopyCode.rk) := fun x => Gr00_CopyCode.f x
def Gr00_CopyCode.ρ : List (Entry (Tp Gr00_CopyCode.rk)) := [entry _ Try.prog 61 Gr00_CopyInts.pk Gr00_CopyInts.rk Gr00_CopyInts.g]
theorem Gr00_CopyCode.hρ : ∀ e ∈ Gr00_CopyCode.ρ, EntryOk Try.prog e :=
  ents_cons (ent (fn := Try.f61) Gr00_CopyInts.spec (by kernel_rfl) (by kernel_rfl) (by kernel_rfl) (by kernel_rfl)) (ents_nil)
def Gr00_CopyCode.fr58 : Fr := [(1, .bx (.st 26)), (2, .bx (.st 26)), (3, .own 47), (4, .int .i64)]
def Gr00_CopyCode.ou58 : Outs := [(1, [(1, .bx (.st 26)), (2, .bx (.st 26)), (3, .own 47)])]
def Gr00_CopyCode.T58 (k : Nat) (x : Gr00_CopyCode.fr58.T) (κ : Kp (Tp Gr00_CopyCode.rk) Gr00_CopyCode.ou58) : Option (Tp Gr00_CopyCode.rk) := Gr00_CopyCode.l58 k x.1 x.2.1 x.2.2.1 x.2.2.2 κ.1
def Gr00_CopyCode.Λ0 : Cuts (Tp Gr00_CopyCode.rk) := cutsOf []
def Gr00_CopyCode.Λ : Cuts (Tp Gr00_CopyCode.rk) := cutsOf [(58, cut Try.prog Gr00_CopyCode.fr58 Gr00_CopyCode.ou58 (Gr00_CopyCode.T58 NN))]
theorem Gr00_CopyCode.c58 (A : Nat → Prop) (w0 : World) : CutOk Try.prog ⟨Try.f38.ntmps, A⟩ w0 (kRet Try.prog Try.f38.results.toList Gr00_CopyCode.rk) (bodyOf Try.f38) 58 (cut Try.prog Gr00_CopyCode.fr58 Gr00_CopyCode.ou58 (Gr00_CopyCode.T58 NN)) :=
  loop_ok Gr00_CopyCode.hρ (Λ := Gr00_CopyCode.Λ0) (cuts_nil) (by kernel_rfl) (D := 64) (b := loopOf Try.f38 58) (by kernel_rfl) (by kernel_rfl) NN (fun x κ => by kernel_rfl) (fun k x κ => by kernel_rfl)
theorem Gr00_CopyCode.spec : Spec Try.prog 38 Gr00_CopyCode.pk Gr00_CopyCode.rk Gr00_CopyCode.g :=
  spec_of_body (fn := Try.f38) (c := bodyOf Try.f38) (by kernel_rfl) (by kernel_rfl) (by kernel_rfl) (by kernel_rfl) (ρ := Gr00_CopyCode.ρ) Gr00_CopyCode.hρ (Λ := Gr00_CopyCode.Λ) (fun A w0 => cuts_cons (Gr00_CopyCode.c58 A w0) (cuts_nil)) (fun x => by kernel_rfl)

/-! ### 17 bluebell/bluebelllaw06.without -/
def Gw06_without.p64079 (v1 : Int) (v2 : D) (v4 : D) (v5 : (ByteArray × List D × List D × List D × Int × Int × Unit)) (v6 : Int) (v7 : Int) (v8 : D) (κ0 : (Int × D × D × (ByteArray × List D × List D × List D × Int × Int × Unit) × Int × Int) → Option (ByteArray × List D × List D × List D × Int × Int × Unit)) : Option (ByteArray × List D × List D × List D × Int × Int × Unit) :=
  gd (Nat.ble (v5.2.2.1.length + ([v8] : List D).length) lim) (κ0 (v1, v2, v4, (v5.1, v5.2.1, (v5.2.2.1 ++ ([v8] : List D)), v5.2.2.2.1, v5.2.2.2.2.1, v5.2.2.2.2.2.1, ()), v6, v7))
def Gw06_without.p16019 (v1 : Int) (v2 : D) (v4 : D) (v5 : (ByteArray × List D × List D × List D × Int × Int × Unit)) (v6 : Int) (v7 : Int) (v8 : D) (κ2 : (Int × D × D × (ByteArray × List D × List D × List D × Int × Int × Unit) × Int × Int) → Option (ByteArray × List D × List D × List D × Int × Int × Unit)) (κ0 : (Int × D × D × (ByteArray × List D × List D × List D × Int × Int × Unit) × Int × Int) → Option (ByteArray × List D × List D × List D × Int × Int × Unit)) : Option (ByteArray × List D × List D × List D × Int × Int × Unit) :=
  bif (v6 == v1) then κ2 (v1, v2, v4, (v5.1, v5.2.1, v5.2.2.1, v5.2.2.2.1, v5.2.2.2.2.1, v5.2.2.2.2.2.1, ()), v6, v7) else bif (((((v8.cell 0).int) == 24) || (((v8.cell 0).int) == 11)) && (decide (((v8.cell 1).int) > v1))) then Gw06_without.p64079 v1 v2 v4 (v5.1, v5.2.1, v5.2.2.1, v5.2.2.2.1, v5.2.2.2.2.1, v5.2.2.2.2.2.1, ()) v6 v7 (.r [.i ((v8.cell 0).int), .i (IntKind.i64.wrap (((v8.cell 1).int) - 1)), .i ((v8.cell 2).int)]) (fun y2 => κ0 (y2.1, y2.2.1, y2.2.2.1, (y2.2.2.2.1.1, y2.2.2.2.1.2.1, y2.2.2.2.1.2.2.1, y2.2.2.2.1.2.2.2.1, y2.2.2.2.1.2.2.2.2.1, y2.2.2.2.1.2.2.2.2.2.1, ()), y2.2.2.2.2.1, y2.2.2.2.2.2)) else bif ((((v8.cell 0).int) == 11) && (((v8.cell 1).int) == v1)) then Gw06_without.p64079 v1 v2 v4 (v5.1, v5.2.1, v5.2.2.1, v5.2.2.2.1, v5.2.2.2.2.1, v5.2.2.2.2.2.1, ()) v6 v7 (.r [.i ((v8.cell 0).int), .i 1, .i ((v8.cell 2).int)]) (fun y3 => κ0 (y3.1, y3.2.1, y3.2.2.1, (y3.2.2.2.1.1, y3.2.2.2.1.2.1, y3.2.2.2.1.2.2.1, y3.2.2.2.1.2.2.2.1, y3.2.2.2.1.2.2.2.2.1, y3.2.2.2.1.2.2.2.2.2.1, ()), y3.2.2.2.2.1, y3.2.2.2.2.2)) else Gw06_without.p64079 v1 v2 v4 (v5.1, v5.2.1, v5.2.2.1, v5.2.2.2.1, v5.2.2.2.2.1, v5.2.2.2.2.2.1, ()) v6 v7 v8 (fun y4 => κ0 (y4.1, y4.2.1, y4.2.2.1, (y4.2.2.2.1.1, y4.2.2.2.1.2.1, y4.2.2.2.1.2.2.1, y4.2.2.2.1.2.2.2.1, y4.2.2.2.1.2.2.2.2.1, y4.2.2.2.1.2.2.2.2.2.1, ()), y4.2.2.2.2.1, y4.2.2.2.2.2))
def Gw06_without.l250 : Nat → Int → D → D → ((ByteArray × List D × List D × List D × Int × Int × Unit)) → Int → Int → ((D × (ByteArray × List D × List D × List D × Int × Int × Unit)) → Option (ByteArray × List D × List D × List D × Int × Int × Unit)) → Option (ByteArray × List D × List D × List D × Int × Int × Unit)
  | 0, _, _, _, _, _, _, _ => none
  | k + 1, v1, v2, v4, v5, v6, v7, κ1 =>
    bif decide (v7 < (((v2.cell 2).list).length : Int)) then gd (inB v7 ((v2.cell 2).list).length) (bif ((((rd ((v2.cell 2).list) v7.toNat).cell 0).int) == 24) then Gw06_without.p16019 v1 v2 v4 (v5.1, v5.2.1, v5.2.2.1, v5.2.2.2.1, v5.2.2.2.2.1, v5.2.2.2.2.2.1, ()) (((rd ((v2.cell 2).list) v7.toNat).cell 1).int) v7 (rd ((v2.cell 2).list) v7.toNat) (fun y5 => Gw06_without.l250 k y5.1 y5.2.1 y5.2.2.1 (y5.2.2.2.1.1, y5.2.2.2.1.2.1, y5.2.2.2.1.2.2.1, y5.2.2.2.1.2.2.2.1, y5.2.2.2.1.2.2.2.2.1, y5.2.2.2.1.2.2.2.2.2.1, ()) y5.2.2.2.2.1 (IntKind.i64.wrap (y5.2.2.2.2.2 + 1)) κ1) (fun y6 => Gw06_without.l250 k y6.1 y6.2.1 y6.2.2.1 (y6.2.2.2.1.1, y6.2.2.2.1.2.1, y6.2.2.2.1.2.2.1, y6.2.2.2.1.2.2.2.1, y6.2.2.2.1.2.2.2.2.1, y6.2.2.2.1.2.2.2.2.2.1, ()) y6.2.2.2.2.1 (IntKind.i64.wrap (y6.2.2.2.2.2 + 1)) κ1) else Gw06_without.p16019 v1 v2 v4 (v5.1, v5.2.1, v5.2.2.1, v5.2.2.2.1, v5.2.2.2.2.1, v5.2.2.2.2.2.1, ()) v6 v7 (rd ((v2.cell 2).list) v7.toNat) (fun y7 => Gw06_without.l250 k y7.1 y7.2.1 y7.2.2.1 (y7.2.2.2.1.1, y7.2.2.2.1.2.1, y7.2.2.2.1.2.2.1, y7.2.2.2.1.2.2.2.1, y7.2.2.2.1.2.2.2.2.1, y7.2.2.2.1.2.2.2.2.2.1, ()) y7.2.2.2.2.1 (IntKind.i64.wrap (y7.2.2.2.2.2 + 1)) κ1) (fun y8 => Gw06_without.l250 k y8.1 y8.2.1 y8.2.2.1 (y8.2.2.2.1.1, y8.2.2.2.1.2.1, y8.2.2.2.1.2.2.1, y8.2.2.2.1.2.2.2.1, y8.2.2.2.1.2.2.2.2.1, y8.2.2.2.1.2.2.2.2.2.1, ()) y8.2.2.2.2.1 (IntKind.i64.wrap (y8.2.2.2.2.2 + 1)) κ1)) else κ1 (v4, (v5.1, v5.2.1, v5.2.2.1, v5.2.2.2.1, v5.2.2.2.2.1, v5.2.2.2.2.2.1, ()))
def Gw06_without.l4090 : Nat → D → ((ByteArray × List D × List D × List D × Int × Int × Unit)) → Int → ((D × (ByteArray × List D × List D × List D × Int × Int × Unit)) → Option (ByteArray × List D × List D × List D × Int × Int × Unit)) → Option (ByteArray × List D × List D × List D × Int × Int × Unit)
  | 0, _, _, _, _ => none
  | k + 1, v4, v5, v9, κ3 =>
    bif decide (v9 < (v5.2.2.1.length : Int)) then gd (inB v9 v5.2.2.1.length) (gd (Nat.blt v9.toNat v5.2.2.1.length) (bif ((((rd v5.2.2.1 v9.toNat).cell 0).int) == 19) then gd (inB v9 v5.2.2.1.length) (gd (Nat.blt v9.toNat v5.2.2.1.length) (Gw06_without.l4090 k v4 (v5.1, v5.2.1, v5.2.2.1, v5.2.2.2.1, v5.2.2.2.2.1, (if (((rd v5.2.2.1 v9.toNat).cell 1).int) > v5.2.2.2.2.2.1 then (((rd v5.2.2.1 v9.toNat).cell 1).int) else v5.2.2.2.2.2.1), ()) (IntKind.i64.wrap (v9 + 1)) κ3)) else Gw06_without.l4090 k v4 (v5.1, v5.2.1, v5.2.2.1, v5.2.2.2.1, v5.2.2.2.2.1, v5.2.2.2.2.2.1, ()) (IntKind.i64.wrap (v9 + 1)) κ3)) else κ3 (v4, (v5.1, v5.2.1, v5.2.2.1, v5.2.2.2.1, v5.2.2.2.2.1, v5.2.2.2.2.2.1, ()))
def Gw06_without.f (a0 : D) (a1 : Int) : Option (ByteArray × List D × List D × List D × Int × Int × Unit) :=
  (Gr00_CopyCode.f a0).bind fun r1 => Gw06_without.l250 NN a1 a0 (.r [.s ByteArray.empty, .l [], .l [], .l [], .i 0, .i 0]) (r1.1, r1.2.1, [], r1.2.2.2.1, r1.2.2.2.2.1, r1.2.2.2.2.2.1, ()) 0 0 (fun y9 => Gw06_without.l4090 NN y9.1 (y9.2.1, y9.2.2.1, y9.2.2.2.1, [], (IntKind.i64.wrap (y9.2.2.2.2.2.1 - 1)), 0, ()) 0 (fun y10 => some (y10.2.1, y10.2.2.1, y10.2.2.2.1, y10.2.2.2.2.1, y10.2.2.2.2.2.1, y10.2.2.2.2.2.2.1, ())))
def Gw06_without.pk : List FK := [.st 26, .int .i64]
def Gw06_without.rk : List FK := [.cn (.str) (.cn (.own 47) (.cn (.own 35) (.cn (.own 68) (.cn (.int .i64) (.cn (.int .i64) (.ce))))))]
def Gw06_without.g : Tp Gw06_without.pk → Option (Tp Gw06_without.rk) := fun x => Gw06_without.f x.1 x.2
def Gw06_without.ρ : List (Entry (Tp Gw06_without.rk)) := [entry _ Try.prog 38 Gr00_CopyCode.pk Gr00_CopyCode.rk Gr00_CopyCode.g]
theorem Gw06_without.hρ : ∀ e ∈ Gw06_without.ρ, EntryOk Try.prog e :=
  ents_cons (ent (fn := Try.f38) Gr00_CopyCode.spec (by kernel_rfl) (by kernel_rfl) (by kernel_rfl) (by kernel_rfl)) (ents_nil)
def Gw06_without.fr64079 : Fr := [(1, .int .i64), (2, .bx (.st 26)), (4, .bx (.st 26)), (5, .bx (.cn (.str) (.cn (.own 47) (.cn (.own 35) (.cn (.own 68) (.cn (.int .i64) (.cn (.int .i64) (.ce)))))))), (6, .int .i64), (7, .int .i64), (8, .bx (.st 35))]
def Gw06_without.ou64079 : Outs := [(0, [(1, .int .i64), (2, .bx (.st 26)), (4, .bx (.st 26)), (5, .bx (.cn (.str) (.cn (.own 47) (.cn (.own 35) (.cn (.own 68) (.cn (.int .i64) (.cn (.int .i64) (.ce)))))))), (6, .int .i64), (7, .int .i64)])]
def Gw06_without.T64079 (x : Gw06_without.fr64079.T) (κ : Kp (Tp Gw06_without.rk) Gw06_without.ou64079) : Option (Tp Gw06_without.rk) := Gw06_without.p64079 x.1 x.2.1 x.2.2.1 x.2.2.2.1 x.2.2.2.2.1 x.2.2.2.2.2.1 x.2.2.2.2.2.2 κ.1
def Gw06_without.fr16019 : Fr := [(1, .int .i64), (2, .bx (.st 26)), (4, .bx (.st 26)), (5, .bx (.cn (.str) (.cn (.own 47) (.cn (.own 35) (.cn (.own 68) (.cn (.int .i64) (.cn (.int .i64) (.ce)))))))), (6, .int .i64), (7, .int .i64), (8, .bx (.st 35))]
def Gw06_without.ou16019 : Outs := [(2, [(1, .int .i64), (2, .bx (.st 26)), (4, .bx (.st 26)), (5, .bx (.cn (.str) (.cn (.own 47) (.cn (.own 35) (.cn (.own 68) (.cn (.int .i64) (.cn (.int .i64) (.ce)))))))), (6, .int .i64), (7, .int .i64)]), (0, [(1, .int .i64), (2, .bx (.st 26)), (4, .bx (.st 26)), (5, .bx (.cn (.str) (.cn (.own 47) (.cn (.own 35) (.cn (.own 68) (.cn (.int .i64) (.cn (.int .i64) (.ce)))))))), (6, .int .i64), (7, .int .i64)])]
def Gw06_without.T16019 (x : Gw06_without.fr16019.T) (κ : Kp (Tp Gw06_without.rk) Gw06_without.ou16019) : Option (Tp Gw06_without.rk) := Gw06_without.p16019 x.1 x.2.1 x.2.2.1 x.2.2.2.1 x.2.2.2.2.1 x.2.2.2.2.2.1 x.2.2.2.2.2.2 κ.1 κ.2.1
def Gw06_without.fr250 : Fr := [(1, .int .i64), (2, .bx (.st 26)), (4, .bx (.st 26)), (5, .bx (.cn (.str) (.cn (.own 47) (.cn (.own 35) (.cn (.own 68) (.cn (.int .i64) (.cn (.int .i64) (.ce)))))))), (6, .int .i64), (7, .int .i64)]
def Gw06_without.ou250 : Outs := [(1, [(4, .bx (.st 26)), (5, .bx (.cn (.str) (.cn (.own 47) (.cn (.own 35) (.cn (.own 68) (.cn (.int .i64) (.cn (.int .i64) (.ce))))))))])]
def Gw06_without.T250 (k : Nat) (x : Gw06_without.fr250.T) (κ : Kp (Tp Gw06_without.rk) Gw06_without.ou250) : Option (Tp Gw06_without.rk) := Gw06_without.l250 k x.1 x.2.1 x.2.2.1 x.2.2.2.1 x.2.2.2.2.1 x.2.2.2.2.2 κ.1
def Gw06_without.fr4090 : Fr := [(4, .bx (.st 26)), (5, .bx (.cn (.str) (.cn (.own 47) (.cn (.own 35) (.cn (.own 68) (.cn (.int .i64) (.cn (.int .i64) (.ce)))))))), (9, .int .i64)]
def Gw06_without.ou4090 : Outs := [(3, [(4, .bx (.st 26)), (5, .bx (.cn (.str) (.cn (.own 47) (.cn (.own 35) (.cn (.own 68) (.cn (.int .i64) (.cn (.int .i64) (.ce))))))))])]
def Gw06_without.T4090 (k : Nat) (x : Gw06_without.fr4090.T) (κ : Kp (Tp Gw06_without.rk) Gw06_without.ou4090) : Option (Tp Gw06_without.rk) := Gw06_without.l4090 k x.1 x.2.1 x.2.2 κ.1
def Gw06_without.Λ0 : Cuts (Tp Gw06_without.rk) := cutsOf []
def Gw06_without.Λ1 : Cuts (Tp Gw06_without.rk) := cutsOf [(64079, cut Try.prog Gw06_without.fr64079 Gw06_without.ou64079 (Gw06_without.T64079))]
def Gw06_without.Λ2 : Cuts (Tp Gw06_without.rk) := cutsOf [(16019, cut Try.prog Gw06_without.fr16019 Gw06_without.ou16019 (Gw06_without.T16019)), (64079, cut Try.prog Gw06_without.fr64079 Gw06_without.ou64079 (Gw06_without.T64079))]
def Gw06_without.Λ3 : Cuts (Tp Gw06_without.rk) := cutsOf [(250, cut Try.prog Gw06_without.fr250 Gw06_without.ou250 (Gw06_without.T250 NN)), (16019, cut Try.prog Gw06_without.fr16019 Gw06_without.ou16019 (Gw06_without.T16019)), (64079, cut Try.prog Gw06_without.fr64079 Gw06_without.ou64079 (Gw06_without.T64079))]
def Gw06_without.Λ : Cuts (Tp Gw06_without.rk) := cutsOf [(4090, cut Try.prog Gw06_without.fr4090 Gw06_without.ou4090 (Gw06_without.T4090 NN)), (250, cut Try.prog Gw06_without.fr250 Gw06_without.ou250 (Gw06_without.T250 NN)), (16019, cut Try.prog Gw06_without.fr16019 Gw06_without.ou16019 (Gw06_without.T16019)), (64079, cut Try.prog Gw06_without.fr64079 Gw06_without.ou64079 (Gw06_without.T64079))]
theorem Gw06_without.c64079 (A : Nat → Prop) (w0 : World) : CutOk Try.prog ⟨Try.f17.ntmps, A⟩ w0 (kRet Try.prog Try.f17.results.toList Gw06_without.rk) (bodyOf Try.f17) 64079 (cut Try.prog Gw06_without.fr64079 Gw06_without.ou64079 (Gw06_without.T64079)) :=
  cut_ok Gw06_without.hρ (Λ := Gw06_without.Λ0) (cuts_nil) (by kernel_rfl) (by kernel_rfl) (D := 64) (c := nodeOf Try.f17 64079) (by kernel_rfl) (by kernel_rfl) (fun x κ => by kernel_rfl)
theorem Gw06_without.c16019 (A : Nat → Prop) (w0 : World) : CutOk Try.prog ⟨Try.f17.ntmps, A⟩ w0 (kRet Try.prog Try.f17.results.toList Gw06_without.rk) (bodyOf Try.f17) 16019 (cut Try.prog Gw06_without.fr16019 Gw06_without.ou16019 (Gw06_without.T16019)) :=
  cut_ok Gw06_without.hρ (Λ := Gw06_without.Λ1) (cuts_cons (Gw06_without.c64079 A w0) (cuts_nil)) (by kernel_rfl) (by kernel_rfl) (D := 64) (c := nodeOf Try.f17 16019) (by kernel_rfl) (by kernel_rfl) (fun x κ => by kernel_rfl)
theorem Gw06_without.c250 (A : Nat → Prop) (w0 : World) : CutOk Try.prog ⟨Try.f17.ntmps, A⟩ w0 (kRet Try.prog Try.f17.results.toList Gw06_without.rk) (bodyOf Try.f17) 250 (cut Try.prog Gw06_without.fr250 Gw06_without.ou250 (Gw06_without.T250 NN)) :=
  loop_ok Gw06_without.hρ (Λ := Gw06_without.Λ2) (cuts_cons (Gw06_without.c16019 A w0) (cuts_cons (Gw06_without.c64079 A w0) (cuts_nil))) (by kernel_rfl) (D := 64) (b := loopOf Try.f17 250) (by kernel_rfl) (by kernel_rfl) NN (fun x κ => by kernel_rfl) (fun k x κ => by kernel_rfl)
theorem Gw06_without.c4090 (A : Nat → Prop) (w0 : World) : CutOk Try.prog ⟨Try.f17.ntmps, A⟩ w0 (kRet Try.prog Try.f17.results.toList Gw06_without.rk) (bodyOf Try.f17) 4090 (cut Try.prog Gw06_without.fr4090 Gw06_without.ou4090 (Gw06_without.T4090 NN)) :=
  loop_ok Gw06_without.hρ (Λ := Gw06_without.Λ3) (cuts_cons (Gw06_without.c250 A w0) (cuts_cons (Gw06_without.c16019 A w0) (cuts_cons (Gw06_without.c64079 A w0) (cuts_nil)))) (by kernel_rfl) (D := 64) (b := loopOf Try.f17 4090) (by kernel_rfl) (by kernel_rfl) NN (fun x κ => by kernel_rfl) (fun k x κ => by kernel_rfl)
theorem Gw06_without.spec : Spec Try.prog 17 Gw06_without.pk Gw06_without.rk Gw06_without.g :=
  spec_of_body (fn := Try.f17) (c := bodyOf Try.f17) (by kernel_rfl) (by kernel_rfl) (by kernel_rfl) (by kernel_rfl) (ρ := Gw06_without.ρ) Gw06_without.hρ (Λ := Gw06_without.Λ) (fun A w0 => cuts_cons (Gw06_without.c4090 A w0) (cuts_cons (Gw06_without.c250 A w0) (cuts_cons (Gw06_without.c16019 A w0) (cuts_cons (Gw06_without.c64079 A w0) (cuts_nil))))) (fun x => by kernel_rfl)

/-! ### 18 bluebell/ocode.Room -/
def Gocode_Room.p130355 (v4 : List D) (v6 : List D) (v7 : List D) (v8 : Int) (v9 : Int) (v10 : D) (v24 : List D) (v25 : Int) (v26 : Int) (κ0 : (List D × List D × List D × Int × List D × Int × Int) → Option (List D × Int)) : Option (List D × Int) :=
  gd (inB (IntKind.i64.wrap (v8 - 1)) v7.length) (gd (Nat.blt (IntKind.i64.wrap (v8 - 1)).toNat v7.length) (gd (inB v9 v4.length) (gd (Nat.blt v9.toNat v4.length) (gd (inB ((v10.cell 0).int) 31 && inB ((v10.cell 0).int) v6.length) (gd (Nat.blt ((v10.cell 0).int).toNat v6.length) ((Gocode_after.f v10 ((rd v4 v9.toNat).int) (rd v6 ((v10.cell 0).int).toNat)).bind fun r3 => gd (inB (IntKind.i64.wrap (v8 - 1)) v7.length) (gd (Nat.blt (IntKind.i64.wrap (v8 - 1)).toNat v7.length) (κ0 (v4, v6, (v7.set (IntKind.i64.wrap (v8 - 1)).toNat (.i (if r3 > ((rd v7 (IntKind.i64.wrap (v8 - 1)).toNat).int) then r3 else ((rd v7 (IntKind.i64.wrap (v8 - 1)).toNat).int)))), v8, v24, v25, v26)))))))))
def Gocode_Room.l1018 : Nat → (List D) → (List D) → (List D) → Int → (List D) → Int → Int → (List D → Option (List D × Int)) → Option (List D × Int)
  | 0, _, _, _, _, _, _, _, _ => none
  | k + 1, v4, v6, v7, v8, v24, v25, v26, κ1 =>
    bif decide (v26 < v25) then gd (inB v26 v24.length) (bif ((((rd v24 v26.toNat).cell 0).int) == 24) then Gocode_Room.p130355 v4 v6 v7 (((rd v24 v26.toNat).cell 1).int) v26 (rd v24 v26.toNat) v24 v25 v26 (fun y4 => Gocode_Room.l1018 k y4.1 y4.2.1 y4.2.2.1 y4.2.2.2.1 y4.2.2.2.2.1 y4.2.2.2.2.2.1 (IntKind.i64.wrap (y4.2.2.2.2.2.2 + 1)) κ1) else gd (inB (IntKind.i64.wrap (v8 - 1)) v7.length) (gd (Nat.blt (IntKind.i64.wrap (v8 - 1)).toNat v7.length) (gd (inB v26 v4.length) (gd (Nat.blt v26.toNat v4.length) (gd (inB (IntKind.i64.wrap (v8 - 1)) v7.length) (gd (Nat.blt (IntKind.i64.wrap (v8 - 1)).toNat v7.length) (Gocode_Room.p130355 v4 v6 (v7.set (IntKind.i64.wrap (v8 - 1)).toNat (.i (if ((rd v4 v26.toNat).int) > ((rd v7 (IntKind.i64.wrap (v8 - 1)).toNat).int) then ((rd v4 v26.toNat).int) else ((rd v7 (IntKind.i64.wrap (v8 - 1)).toNat).int)))) v8 v26 (rd v24 v26.toNat) v24 v25 v26 (fun y5 => Gocode_Room.l1018 k y5.1 y5.2.1 y5.2.2.1 y5.2.2.2.1 y5.2.2.2.2.1 y5.2.2.2.2.2.1 (IntKind.i64.wrap (y5.2.2.2.2.2.2 + 1)) κ1)))))))) else κ1 v7
def Gocode_Room.f (a0 : D) : Option (List D × Int) :=
  (Gocode_Depths.f a0).bind fun r1 => bif (r1.2 != 0) then some ([], r1.2) else (Gocode_kinds.f).bind fun r2 => gd (Nat.beq (r2 : List D).length ((List.replicate 31 (.r [.s ByteArray.empty, .i 0, .i 0, .i 0] : D)) : List D).length && Nat.beq (r2 : List D).length 31) (gd (decide (0 ≤ ((a0.cell 4).int)) && decide (((a0.cell 4).int) ≤ (lim : Int))) (Gocode_Room.l1018 NN r1.1 r2 (List.replicate ((a0.cell 4).int).toNat (.i 0 : D)) 0 ((a0.cell 2).list) (((a0.cell 2).list).length : Int) 0 (fun y6 => some (y6, 0))))
def Gocode_Room.pk : List FK := [.st 26]
def Gocode_Room.rk : List FK := [.own 3, .int .i64]
def Gocode_Room.g : Tp Gocode_Room.pk → Option (Tp Gocode_Room.rk) := fun x => Gocode_Room.f x
def Gocode_Room.ρ : List (Entry (Tp Gocode_Room.rk)) := [entry _ Try.prog 16 Gocode_Depths.pk Gocode_Depths.rk Gocode_Depths.g, entry _ Try.prog 36 Gocode_kinds.pk Gocode_kinds.rk Gocode_kinds.g, entry _ Try.prog 37 Gocode_after.pk Gocode_after.rk Gocode_after.g]
theorem Gocode_Room.hρ : ∀ e ∈ Gocode_Room.ρ, EntryOk Try.prog e :=
  ents_cons (ent (fn := Try.f16) Gocode_Depths.spec (by kernel_rfl) (by kernel_rfl) (by kernel_rfl) (by kernel_rfl)) (ents_cons (ent (fn := Try.f36) Gocode_kinds.spec (by kernel_rfl) (by kernel_rfl) (by kernel_rfl) (by kernel_rfl)) (ents_cons (ent (fn := Try.f37) Gocode_after.spec (by kernel_rfl) (by kernel_rfl) (by kernel_rfl) (by kernel_rfl)) (ents_nil)))
def Gocode_Room.fr130355 : Fr := [(4, .own 3), (6, .arr 53), (7, .own 3), (8, .int .i64), (9, .int .i64), (10, .bx (.st 35)), (24, .sl 35), (25, .int .i64), (26, .int .i64)]
def Gocode_Room.ou130355 : Outs := [(0, [(4, .own 3), (6, .arr 53), (7, .own 3), (8, .int .i64), (24, .sl 35), (25, .int .i64), (26, .int .i64)])]
def Gocode_Room.T130355 (x : Gocode_Room.fr130355.T) (κ : Kp (Tp Gocode_Room.rk) Gocode_Room.ou130355) : Option (Tp Gocode_Room.rk) := Gocode_Room.p130355 x.1 x.2.1 x.2.2.1 x.2.2.2.1 x.2.2.2.2.1 x.2.2.2.2.2.1 x.2.2.2.2.2.2.1 x.2.2.2.2.2.2.2.1 x.2.2.2.2.2.2.2.2 κ.1
def Gocode_Room.fr1018 : Fr := [(4, .own 3), (6, .arr 53), (7, .own 3), (8, .int .i64), (24, .sl 35), (25, .int .i64), (26, .int .i64)]
def Gocode_Room.ou1018 : Outs := [(1, [(7, .own 3)])]
def Gocode_Room.T1018 (k : Nat) (x : Gocode_Room.fr1018.T) (κ : Kp (Tp Gocode_Room.rk) Gocode_Room.ou1018) : Option (Tp Gocode_Room.rk) := Gocode_Room.l1018 k x.1 x.2.1 x.2.2.1 x.2.2.2.1 x.2.2.2.2.1 x.2.2.2.2.2.1 x.2.2.2.2.2.2 κ.1
def Gocode_Room.Λ0 : Cuts (Tp Gocode_Room.rk) := cutsOf []
def Gocode_Room.Λ1 : Cuts (Tp Gocode_Room.rk) := cutsOf [(130355, cut Try.prog Gocode_Room.fr130355 Gocode_Room.ou130355 (Gocode_Room.T130355))]
def Gocode_Room.Λ : Cuts (Tp Gocode_Room.rk) := cutsOf [(1018, cut Try.prog Gocode_Room.fr1018 Gocode_Room.ou1018 (Gocode_Room.T1018 NN)), (130355, cut Try.prog Gocode_Room.fr130355 Gocode_Room.ou130355 (Gocode_Room.T130355))]
theorem Gocode_Room.c130355 (A : Nat → Prop) (w0 : World) : CutOk Try.prog ⟨Try.f18.ntmps, A⟩ w0 (kRet Try.prog Try.f18.results.toList Gocode_Room.rk) (bodyOf Try.f18) 130355 (cut Try.prog Gocode_Room.fr130355 Gocode_Room.ou130355 (Gocode_Room.T130355)) :=
  cut_ok Gocode_Room.hρ (Λ := Gocode_Room.Λ0) (cuts_nil) (by kernel_rfl) (by kernel_rfl) (D := 64) (c := nodeOf Try.f18 130355) (by kernel_rfl) (by kernel_rfl) (fun x κ => by kernel_rfl)
theorem Gocode_Room.c1018 (A : Nat → Prop) (w0 : World) : CutOk Try.prog ⟨Try.f18.ntmps, A⟩ w0 (kRet Try.prog Try.f18.results.toList Gocode_Room.rk) (bodyOf Try.f18) 1018 (cut Try.prog Gocode_Room.fr1018 Gocode_Room.ou1018 (Gocode_Room.T1018 NN)) :=
  loop_ok Gocode_Room.hρ (Λ := Gocode_Room.Λ1) (cuts_cons (Gocode_Room.c130355 A w0) (cuts_nil)) (by kernel_rfl) (D := 64) (b := loopOf Try.f18 1018) (by kernel_rfl) (by kernel_rfl) NN (fun x κ => by kernel_rfl) (fun k x κ => by kernel_rfl)
theorem Gocode_Room.spec : Spec Try.prog 18 Gocode_Room.pk Gocode_Room.rk Gocode_Room.g :=
  spec_of_body (fn := Try.f18) (c := bodyOf Try.f18) (by kernel_rfl) (by kernel_rfl) (by kernel_rfl) (by kernel_rfl) (ρ := Gocode_Room.ρ) Gocode_Room.hρ (Λ := Gocode_Room.Λ) (fun A w0 => cuts_cons (Gocode_Room.c1018 A w0) (cuts_cons (Gocode_Room.c130355 A w0) (cuts_nil))) (fun x => by kernel_rfl)

/-! ### 4 bluebell/bluebelllaw06.OcodeApart -/
def Gw06_OcodeApart.p1048393 (v2 : D) (v5 : List D) (v7 : Int) (v8 : List D) (v10 : List D) (v12 : List D) (v14 : List D) (v15 : Int) (v16 : Int) (κ0 : (D × List D × Int × List D × List D × List D × List D × Int × Int) → Option Bool) : Option Bool :=
  bif (v15 != v7) then gd (inB v16 v5.length) (gd (Nat.blt v16.toNat v5.length) (gd (Nat.ble (v14.length + ([.i ((rd v5 v16.toNat).int)] : List D).length) lim) (κ0 (v2, v5, v7, v8, v10, v12, (v14 ++ ([.i ((rd v5 v16.toNat).int)] : List D)), v15, v16)))) else κ0 (v2, v5, v7, v8, v10, v12, v14, v15, v16)
def Gw06_OcodeApart.l32762 : Nat → D → (List D) → Int → (List D) → (List D) → (List D) → (List D) → Int → Int → ((D × List D × Int × List D × List D × List D × List D) → Option Bool) → Option Bool
  | 0, _, _, _, _, _, _, _, _, _, _ => none
  | k + 1, v2, v5, v7, v8, v10, v12, v14, v15, v16, κ1 =>
    bif ((decide (v16 < (((v2.cell 2).list).length : Int))) && (decide (v16 < (v5.length : Int)))) then gd (inB v16 ((v2.cell 2).list).length) (bif ((((rd ((v2.cell 2).list) v16.toNat).cell 0).int) == 24) then gd (inB v16 ((v2.cell 2).list).length) (Gw06_OcodeApart.p1048393 v2 v5 v7 v8 v10 v12 v14 (((rd ((v2.cell 2).list) v16.toNat).cell 1).int) v16 (fun y10 => Gw06_OcodeApart.l32762 k y10.1 y10.2.1 y10.2.2.1 y10.2.2.2.1 y10.2.2.2.2.1 y10.2.2.2.2.2.1 y10.2.2.2.2.2.2.1 y10.2.2.2.2.2.2.2.1 (IntKind.i64.wrap (y10.2.2.2.2.2.2.2.2 + 1)) κ1)) else Gw06_OcodeApart.p1048393 v2 v5 v7 v8 v10 v12 v14 v15 v16 (fun y11 => Gw06_OcodeApart.l32762 k y11.1 y11.2.1 y11.2.2.1 y11.2.2.2.1 y11.2.2.2.2.1 y11.2.2.2.2.2.1 y11.2.2.2.2.2.2.1 y11.2.2.2.2.2.2.2.1 (IntKind.i64.wrap (y11.2.2.2.2.2.2.2.2 + 1)) κ1)) else κ1 (v2, v5, v7, v8, v10, v12, v14)
def Gw06_OcodeApart.p32766 (v7 : Int) (v8 : List D) (v10 : List D) (v12 : List D) (v14 : List D) (κ0 : Bool → Option Bool) : Option Bool :=
  (Gr00_EqInts.f v8 v14).bind fun r13 => gd ((!r13) || (decide (0 ≤ (IntKind.i64.wrap (v7 - 1))) && decide ((IntKind.i64.wrap (v7 - 1)) ≤ (v10.length : Int)))) (bif r13 then gd (Nat.ble ((v10.take (IntKind.i64.wrap (v7 - 1)).toNat).drop 0).length lim) (gd ((!r13) || (decide (0 ≤ v7) && decide (v7 ≤ (v10.length : Int)))) (bif r13 then gd (Nat.ble (((v10.take (IntKind.i64.wrap (v7 - 1)).toNat).drop 0).length + ((v10.take v10.length).drop v7.toNat).length) lim) ((bif r13 then Gr00_EqInts.f v12 (((v10.take (IntKind.i64.wrap (v7 - 1)).toNat).drop 0) ++ ((v10.take v10.length).drop v7.toNat)) else some false).bind fun r14 => (bif (r13 && r14) then Gw06_awake.f else some false).bind fun r15 => κ0 ((r13 && r14) && r15)) else (bif r13 then none else some false).bind fun r16 => (bif (r13 && r16) then Gw06_awake.f else some false).bind fun r17 => κ0 ((r13 && r16) && r17))) else gd ((!r13) || (decide (0 ≤ v7) && decide (v7 ≤ (v10.length : Int)))) (bif r13 then none else (bif r13 then none else some false).bind fun r18 => (bif (r13 && r18) then Gw06_awake.f else some false).bind fun r19 => κ0 ((r13 && r18) && r19)))
def Gw06_OcodeApart.f (a0 : D) (a1 : Int) : Option Bool :=
  (Gw06_heavy.f a0).bind fun r1 => bif (r1 || (decide (a1 < 0))) then (Gw06_awake.f).bind fun r2 => some r2 else (Gocode_Depths.f a0).bind fun r3 => bif ((r3.2 != 0) || (decide (((a0.cell 4).int) < 2))) then (Gw06_awake.f).bind fun r4 => some r4 else gd (!(((a0.cell 4).int) == 0)) ((Gw06_without.f a0 (IntKind.i64.wrap ((a1.tmod ((a0.cell 4).int)) + 1))).bind fun r5 => (Gocode_Depths.f (.r [.s r5.1, .l r5.2.1, .l r5.2.2.1, .l r5.2.2.2.1, .i r5.2.2.2.2.1, .i r5.2.2.2.2.2.1])).bind fun r6 => (Gocode_Room.f a0).bind fun r7 => (Gw06_without.f a0 (IntKind.i64.wrap ((a1.tmod ((a0.cell 4).int)) + 1))).bind fun r8 => (Gocode_Room.f (.r [.s r8.1, .l r8.2.1, .l r8.2.2.1, .l r8.2.2.2.1, .i r8.2.2.2.2.1, .i r8.2.2.2.2.2.1])).bind fun r9 => bif (((r6.2 != 0) || (r7.2 != 0)) || (r9.2 != 0)) then some false else Gw06_OcodeApart.l32762 NN a0 r3.1 (IntKind.i64.wrap ((a1.tmod ((a0.cell 4).int)) + 1)) r6.1 r7.1 r9.1 [] 0 0 (fun y12 => bif (((y12.2.1.length : Int) != (((y12.1.cell 2).list).length : Int)) || ((y12.2.2.2.2.1.length : Int) != ((y12.1.cell 4).int))) then some false else Gw06_OcodeApart.p32766 y12.2.2.1 y12.2.2.2.1 y12.2.2.2.2.1 y12.2.2.2.2.2.1 y12.2.2.2.2.2.2 (fun y20 => some y20)))
def Gw06_OcodeApart.pk : List FK := [.st 26, .int .i64]
def Gw06_OcodeApart.rk : List FK := [.bool]
def Gw06_OcodeApart.g : Tp Gw06_OcodeApart.pk → Option (Tp Gw06_OcodeApart.rk) := fun x => Gw06_OcodeApart.f x.1 x.2
def Gw06_OcodeApart.ρ : List (Entry (Tp Gw06_OcodeApart.rk)) := [entry _ Try.prog 12 Gw06_heavy.pk Gw06_heavy.rk Gw06_heavy.g, entry _ Try.prog 13 Gw06_awake.pk Gw06_awake.rk Gw06_awake.g, entry _ Try.prog 16 Gocode_Depths.pk Gocode_Depths.rk Gocode_Depths.g, entry _ Try.prog 17 Gw06_without.pk Gw06_without.rk Gw06_without.g, entry _ Try.prog 18 Gocode_Room.pk Gocode_Room.rk Gocode_Room.g, entry _ Try.prog 19 Gr00_EqInts.pk Gr00_EqInts.rk Gr00_EqInts.g]
theorem Gw06_OcodeApart.hρ : ∀ e ∈ Gw06_OcodeApart.ρ, EntryOk Try.prog e :=
  ents_cons (ent (fn := Try.f12) Gw06_heavy.spec (by kernel_rfl) (by kernel_rfl) (by kernel_rfl) (by kernel_rfl)) (ents_cons (ent (fn := Try.f13) Gw06_awake.spec (by kernel_rfl) (by kernel_rfl) (by kernel_rfl) (by kernel_rfl)) (ents_cons (ent (fn := Try.f16) Gocode_Depths.spec (by kernel_rfl) (by kernel_rfl) (by kernel_rfl) (by kernel_rfl)) (ents_cons (ent (fn := Try.f17) Gw06_without.spec (by kernel_rfl) (by kernel_rfl) (by kernel_rfl) (by kernel_rfl)) (ents_cons (ent (fn := Try.f18) Gocode_Room.spec (by kernel_rfl) (by kernel_rfl) (by kernel_rfl) (by kernel_rfl)) (ents_cons (ent (fn := Try.f19) Gr00_EqInts.spec (by kernel_rfl) (by kernel_rfl) (by kernel_rfl) (by kernel_rfl)) (ents_nil))))))
def Gw06_OcodeApart.fr1048393 : Fr := [(2, .bx (.st 26)), (5, .own 3), (7, .int .i64), (8, .own 3), (10, .own 3), (12, .own 3), (14, .own 3), (15, .int .i64), (16, .int .i64)]
def Gw06_OcodeApart.ou1048393 : Outs := [(0, [(2, .bx (.st 26)), (5, .own 3), (7, .int .i64), (8, .own 3), (10, .own 3), (12, .own 3), (14, .own 3), (15, .int .i64), (16, .int .i64)])]
def Gw06_OcodeApart.T1048393 (x : Gw06_OcodeApart.fr1048393.T) (κ : Kp (Tp Gw06_OcodeApart.rk) Gw06_OcodeApart.ou1048393) : Option (Tp Gw06_OcodeApart.rk) := Gw06_OcodeApart.p1048393 x.1 x.2.1 x.2.2.1 x.2.2.2.1 x.2.2.2.2.1 x.2.2.2.2.2.1 x.2.2.2.2.2.2.1 x.2.2.2.2.2.2.2.1 x.2.2.2.2.2.2.2.2 κ.1
def Gw06_OcodeApart.fr32762 : Fr := [(2, .bx (.st 26)), (5, .own 3), (7, .int .i64), (8, .own 3), (10, .own 3), (12, .own 3), (14, .own 3), (15, .int .i64), (16, .int .i64)]
def Gw06_OcodeApart.ou32762 : Outs := [(1, [(2, .bx (.st 26)), (5, .own 3), (7, .int .i64), (8, .own 3), (10, .own 3), (12, .own 3), (14, .own 3)])]
def Gw06_OcodeApart.T32762 (k : Nat) (x : Gw06_OcodeApart.fr32762.T) (κ : Kp (Tp Gw06_OcodeApart.rk) Gw06_OcodeApart.ou32762) : Option (Tp Gw06_OcodeApart.rk) := Gw06_OcodeApart.l32762 k x.1 x.2.1 x.2.2.1 x.2.2.2.1 x.2.2.2.2.1 x.2.2.2.2.2.1 x.2.2.2.2.2.2.1 x.2.2.2.2.2.2.2.1 x.2.2.2.2.2.2.2.2 κ.1
def Gw06_OcodeApart.fr32766 : Fr := [(7, .int .i64), (8, .own 3), (10, .own 3), (12, .own 3), (14, .own 3)]
def Gw06_OcodeApart.ou32766 : Outs := [(0, [(4, .bool)])]
def Gw06_OcodeApart.T32766 (x : Gw06_OcodeApart.fr32766.T) (κ : Kp (Tp Gw06_OcodeApart.rk) Gw06_OcodeApart.ou32766) : Option (Tp Gw06_OcodeApart.rk) := Gw06_OcodeApart.p32766 x.1 x.2.1 x.2.2.1 x.2.2.2.1 x.2.2.2.2 κ.1
def Gw06_OcodeApart.Λ0 : Cuts (Tp Gw06_OcodeApart.rk) := cutsOf []
def Gw06_OcodeApart.Λ1 : Cuts (Tp Gw06_OcodeApart.rk) := cutsOf [(1048393, cut Try.prog Gw06_OcodeApart.fr1048393 Gw06_OcodeApart.ou1048393 (Gw06_OcodeApart.T1048393))]
def Gw06_OcodeApart.Λ2 : Cuts (Tp Gw06_OcodeApart.rk) := cutsOf [(32762, cut Try.prog Gw06_OcodeApart.fr32762 Gw06_OcodeApart.ou32762 (Gw06_OcodeApart.T32762 NN)), (1048393, cut Try.prog Gw06_OcodeApart.fr1048393 Gw06_OcodeApart.ou1048393 (Gw06_OcodeApart.T1048393))]
def Gw06_OcodeApart.Λ : Cuts (Tp Gw06_OcodeApart.rk) := cutsOf [(32766, cut Try.prog Gw06_OcodeApart.fr32766 Gw06_OcodeApart.ou32766 (Gw06_OcodeApart.T32766)), (32762, cut Try.prog Gw06_OcodeApart.fr32762 Gw06_OcodeApart.ou32762 (Gw06_OcodeApart.T32762 NN)), (1048393, cut Try.prog Gw06_OcodeApart.fr1048393 Gw06_OcodeApart.ou1048393 (Gw06_OcodeApart.T1048393))]
theorem Gw06_OcodeApart.c1048393 (A : Nat → Prop) (w0 : World) : CutOk Try.prog ⟨Try.f4.ntmps, A⟩ w0 (kRet Try.prog Try.f4.results.toList Gw06_OcodeApart.rk) (bodyOf Try.f4) 1048393 (cut Try.prog Gw06_OcodeApart.fr1048393 Gw06_OcodeApart.ou1048393 (Gw06_OcodeApart.T1048393)) :=
  cut_ok Gw06_OcodeApart.hρ (Λ := Gw06_OcodeApart.Λ0) (cuts_nil) (by kernel_rfl) (by kernel_rfl) (D := 64) (c := nodeOf Try.f4 1048393) (by kernel_rfl) (by kernel_rfl) (fun x κ => by kernel_rfl)
theorem Gw06_OcodeApart.c32762 (A : Nat → Prop) (w0 : World) : CutOk Try.prog ⟨Try.f4.ntmps, A⟩ w0 (kRet Try.prog Try.f4.results.toList Gw06_OcodeApart.rk) (bodyOf Try.f4) 32762 (cut Try.prog Gw06_OcodeApart.fr32762 Gw06_OcodeApart.ou32762 (Gw06_OcodeApart.T32762 NN)) :=
  loop_ok Gw06_OcodeApart.hρ (Λ := Gw06_OcodeApart.Λ1) (cuts_cons (Gw06_OcodeApart.c1048393 A w0) (cuts_nil)) (by kernel_rfl) (D := 64) (b := loopOf Try.f4 32762) (by kernel_rfl) (by kernel_rfl) NN (fun x κ => by kernel_rfl) (fun k x κ => by kernel_rfl)
theorem Gw06_OcodeApart.c32766 (A : Nat → Prop) (w0 : World) : CutOk Try.prog ⟨Try.f4.ntmps, A⟩ w0 (kRet Try.prog Try.f4.results.toList Gw06_OcodeApart.rk) (bodyOf Try.f4) 32766 (cut Try.prog Gw06_OcodeApart.fr32766 Gw06_OcodeApart.ou32766 (Gw06_OcodeApart.T32766)) :=
  cut_ok Gw06_OcodeApart.hρ (Λ := Gw06_OcodeApart.Λ2) (cuts_cons (Gw06_OcodeApart.c32762 A w0) (cuts_cons (Gw06_OcodeApart.c1048393 A w0) (cuts_nil))) (by kernel_rfl) (by kernel_rfl) (D := 64) (c := nodeOf Try.f4 32766) (by kernel_rfl) (by kernel_rfl) (fun x κ => by kernel_rfl)
theorem Gw06_OcodeApart.spec : Spec Try.prog 4 Gw06_OcodeApart.pk Gw06_OcodeApart.rk Gw06_OcodeApart.g :=
  spec_of_body (fn := Try.f4) (c := bodyOf Try.f4) (by kernel_rfl) (by kernel_rfl) (by kernel_rfl) (by kernel_rfl) (ρ := Gw06_OcodeApart.ρ) Gw06_OcodeApart.hρ (Λ := Gw06_OcodeApart.Λ) (fun A w0 => cuts_cons (Gw06_OcodeApart.c32766 A w0) (cuts_cons (Gw06_OcodeApart.c32762 A w0) (cuts_cons (Gw06_OcodeApart.c1048393 A w0) (cuts_nil)))) (fun x => by kernel_rfl)

/-! ### 42 bluebell/bluebellref06.tooMuch -/
def Gr06_tooMuch.l122 : Nat → D → Int → Int → (Int → Option Bool) → Option Bool
  | 0, _, _, _, _ => none
  | k + 1, v1, v3, v4, κ1 =>
    bif decide (v4 < (((v1.cell 1).list).length : Int)) then gd (inB v4 ((v1.cell 1).list).length) (gd (inB v4 ((v1.cell 1).list).length) (bif ((rd ((v1.cell 1).list) v4.toNat).cell 1).bool then gd (inB v4 ((v1.cell 1).list).length) (gd (!(2 == 0)) (Gr06_tooMuch.l122 k v1 (IntKind.i64.wrap ((IntKind.i64.wrap (v3 + ((((rd ((v1.cell 1).list) v4.toNat).cell 2).list).length : Int))) + (IntKind.i64.wrap ((IntKind.i64.wrap (((((rd ((v1.cell 1).list) v4.toNat).cell 0).str).size : Int) + 2)).tdiv 2)))) (IntKind.i64.wrap (v4 + 1)) κ1)) else Gr06_tooMuch.l122 k v1 (IntKind.i64.wrap (v3 + ((((rd ((v1.cell 1).list) v4.toNat).cell 2).list).length : Int))) (IntKind.i64.wrap (v4 + 1)) κ1)) else κ1 v3
def Gr06_tooMuch.f (a0 : D) : Option Bool :=
  bif ((((decide ((((a0.cell 2).list).length : Int) > 40000)) || (decide ((((a0.cell 1).list).length : Int) > 2000))) || (decide (((a0.cell 4).int) > 200))) || (decide (((a0.cell 5).int) > 20000))) then some true else Gr06_tooMuch.l122 NN a0 0 0 (fun y1 => some (decide (y1 > 7800)))
def Gr06_tooMuch.pk : List FK := [.st 26]
def Gr06_tooMuch.rk : List FK := [.bool]
def Gr06_tooMuch.g : Tp Gr06_tooMuch.pk → Option (Tp Gr06_tooMuch.rk) := fun x => Gr06_tooMuch.f x
def Gr06_tooMuch.ρ : List (Entry (Tp Gr06_tooMuch.rk)) := []
theorem Gr06_tooMuch.hρ : ∀ e ∈ Gr06_tooMuch.ρ, EntryOk Try.prog e :=
  ents_nil
def Gr06_tooMuch.fr122 : Fr := [(1, .bx (.st 26)), (3, .int .i64), (4, .int .i64)]
def Gr06_tooMuch.ou122 : Outs := [(1, [(3, .int .i64)])]
def Gr06_tooMuch.T122 (k : Nat) (x : Gr06_tooMuch.fr122.T) (κ : Kp (Tp Gr06_tooMuch.rk) Gr06_tooMuch.ou122) : Option (Tp Gr06_tooMuch.rk) := Gr06_tooMuch.l122 k x.1 x.2.1 x.2.2 κ.1
def Gr06_tooMuch.Λ0 : Cuts (Tp Gr06_tooMuch.rk) := cutsOf []
def Gr06_tooMuch.Λ : Cuts (Tp Gr06_tooMuch.rk) := cutsOf [(122, cut Try.prog Gr06_tooMuch.fr122 Gr06_tooMuch.ou122 (Gr06_tooMuch.T122 NN))]
theorem Gr06_tooMuch.c122 (A : Nat → Prop) (w0 : World) : CutOk Try.prog ⟨Try.f42.ntmps, A⟩ w0 (kRet Try.prog Try.f42.results.toList Gr06_tooMuch.rk) (bodyOf Try.f42) 122 (cut Try.prog Gr06_tooMuch.fr122 Gr06_tooMuch.ou122 (Gr06_tooMuch.T122 NN)) :=
  loop_ok Gr06_tooMuch.hρ (Λ := Gr06_tooMuch.Λ0) (cuts_nil) (by kernel_rfl) (D := 64) (b := loopOf Try.f42 122) (by kernel_rfl) (by kernel_rfl) NN (fun x κ => by kernel_rfl) (fun k x κ => by kernel_rfl)
theorem Gr06_tooMuch.spec : Spec Try.prog 42 Gr06_tooMuch.pk Gr06_tooMuch.rk Gr06_tooMuch.g :=
  spec_of_body (fn := Try.f42) (c := bodyOf Try.f42) (by kernel_rfl) (by kernel_rfl) (by kernel_rfl) (by kernel_rfl) (ρ := Gr06_tooMuch.ρ) Gr06_tooMuch.hρ (Λ := Gr06_tooMuch.Λ) (fun A w0 => cuts_cons (Gr06_tooMuch.c122 A w0) (cuts_nil)) (fun x => by kernel_rfl)

/-! ### 70 bluebell/bluebellref02.Quote -/
def Gr02_Quote.l58 : Nat → ByteArray → ByteArray → Int → ((ByteArray × ByteArray) → Option (ByteArray × Int)) → Option (ByteArray × Int)
  | 0, _, _, _, _ => none
  | k + 1, v0, v4, v5, κ1 =>
    bif decide (v5 < (v0.size : Int)) then gd (inB v5 v0.size) (bif ((bt v0 v5.toNat) == 10) then gd (decide (v4.size + str2a6e.size ≤ maxS)) (Gr02_Quote.l58 k v0 (v4 ++ str2a6e) (IntKind.i64.wrap (v5 + 1)) κ1) else bif ((bt v0 v5.toNat) == 9) then gd (decide (v4.size + str2a74.size ≤ maxS)) (Gr02_Quote.l58 k v0 (v4 ++ str2a74) (IntKind.i64.wrap (v5 + 1)) κ1) else bif (((bt v0 v5.toNat) == 42) || ((bt v0 v5.toNat) == 34)) then gd (decide (0 ≤ v5) && (decide (v5 ≤ (IntKind.i64.wrap (v5 + 1))) && decide ((IntKind.i64.wrap (v5 + 1)) ≤ (v0.size : Int)))) (gd (decide (str2a.size + (v0.extract v5.toNat (IntKind.i64.wrap (v5 + 1)).toNat).size ≤ maxS)) (gd (decide (v4.size + (str2a ++ (v0.extract v5.toNat (IntKind.i64.wrap (v5 + 1)).toNat)).size ≤ maxS)) (Gr02_Quote.l58 k v0 (v4 ++ (str2a ++ (v0.extract v5.toNat (IntKind.i64.wrap (v5 + 1)).toNat))) (IntKind.i64.wrap (v5 + 1)) κ1))) else bif ((decide ((bt v0 v5.toNat) < 32)) || (decide ((bt v0 v5.toNat) > 126))) then some (strNil, 3) else gd (decide (0 ≤ v5) && (decide (v5 ≤ (IntKind.i64.wrap (v5 + 1))) && decide ((IntKind.i64.wrap (v5 + 1)) ≤ (v0.size : Int)))) (gd (decide (v4.size + (v0.extract v5.toNat (IntKind.i64.wrap (v5 + 1)).toNat).size ≤ maxS)) (Gr02_Quote.l58 k v0 (v4 ++ (v0.extract v5.toNat (IntKind.i64.wrap (v5 + 1)).toNat)) (IntKind.i64.wrap (v5 + 1)) κ1))) else κ1 (v0, v4)
def Gr02_Quote.f (a0 : ByteArray) : Option (ByteArray × Int) :=
  Gr02_Quote.l58 NN a0 str22 0 (fun y1 => bif decide ((y1.1.size : Int) > 100) then some (strNil, 2) else gd (decide (y1.2.size + str22.size ≤ maxS)) (some ((y1.2 ++ str22), 0)))
def Gr02_Quote.pk : List FK := [.str]
def Gr02_Quote.rk : List FK := [.str, .int .i64]
def Gr02_Quote.g : Tp Gr02_Quote.pk → Option (Tp Gr02_Quote.rk) := fun x => Gr02_Quote.f x
def Gr02_Quote.ρ : List (Entry (Tp Gr02_Quote.rk)) := []
theorem Gr02_Quote.hρ : ∀ e ∈ Gr02_Quote.ρ, EntryOk Try.prog e :=
  ents_nil
def Gr02_Quote.fr58 : Fr := [(0, .str), (4, .str), (5, .int .i64)]
def Gr02_Quote.ou58 : Outs := [(1, [(0, .str), (4, .str)])]
def Gr02_Quote.T58 (k : Nat) (x : Gr02_Quote.fr58.T) (κ : Kp (Tp Gr02_Quote.rk) Gr02_Quote.ou58) : Option (Tp Gr02_Quote.rk) := Gr02_Quote.l58 k x.1 x.2.1 x.2.2 κ.1
def Gr02_Quote.Λ0 : Cuts (Tp Gr02_Quote.rk) := cutsOf []
def Gr02_Quote.Λ : Cuts (Tp Gr02_Quote.rk) := cutsOf [(58, cut Try.prog Gr02_Quote.fr58 Gr02_Quote.ou58 (Gr02_Quote.T58 NN))]
theorem Gr02_Quote.c58 (A : Nat → Prop) (w0 : World) : CutOk Try.prog ⟨Try.f70.ntmps, A⟩ w0 (kRet Try.prog Try.f70.results.toList Gr02_Quote.rk) (bodyOf Try.f70) 58 (cut Try.prog Gr02_Quote.fr58 Gr02_Quote.ou58 (Gr02_Quote.T58 NN)) :=
  loop_ok Gr02_Quote.hρ (Λ := Gr02_Quote.Λ0) (cuts_nil) (by kernel_rfl) (D := 64) (b := loopOf Try.f70 58) (by kernel_rfl) (by kernel_rfl) NN (fun x κ => by kernel_rfl) (fun k x κ => by kernel_rfl)
theorem Gr02_Quote.spec : Spec Try.prog 70 Gr02_Quote.pk Gr02_Quote.rk Gr02_Quote.g :=
  spec_of_body (fn := Try.f70) (c := bodyOf Try.f70) (by kernel_rfl) (by kernel_rfl) (by kernel_rfl) (by kernel_rfl) (ρ := Gr02_Quote.ρ) Gr02_Quote.hρ (Λ := Gr02_Quote.Λ) (fun A w0 => cuts_cons (Gr02_Quote.c58 A w0) (cuts_nil)) (fun x => by kernel_rfl)

/-! ### 71 bluebell/bluebellref06.in -/
def Gr06_in.f (a0 : Int) (a1 : Int) (a2 : Int) : Option Bool :=
  some ((decide (a0 ≥ a1)) && (decide (a0 ≤ a2)))
def Gr06_in.pk : List FK := [.int .i64, .int .i64, .int .i64]
def Gr06_in.rk : List FK := [.bool]
def Gr06_in.g : Tp Gr06_in.pk → Option (Tp Gr06_in.rk) := fun x => Gr06_in.f x.1 x.2.1 x.2.2
def Gr06_in.ρ : List (Entry (Tp Gr06_in.rk)) := []
theorem Gr06_in.hρ : ∀ e ∈ Gr06_in.ρ, EntryOk Try.prog e :=
  ents_nil
def Gr06_in.Λ : Cuts (Tp Gr06_in.rk) := cutsOf []
theorem Gr06_in.spec : Spec Try.prog 71 Gr06_in.pk Gr06_in.rk Gr06_in.g :=
  spec_of_body (fn := Try.f71) (c := bodyOf Try.f71) (by kernel_rfl) (by kernel_rfl) (by kernel_rfl) (by kernel_rfl) (ρ := Gr06_in.ρ) Gr06_in.hρ (Λ := Gr06_in.Λ) (fun A w0 => cuts_nil) (fun x => by kernel_rfl)

/-! ### 43 bluebell/bluebellref06.areas -/
def Gr06_areas.l13470 : Nat → D → Int → D → Int → ((D × Int) → Option Bool) → Option Bool
  | 0, _, _, _, _, _ => none
  | k + 1, v1, v3, v4, v7, κ3 =>
    bif decide (v7 < (((v4.cell 2).list).length : Int)) then gd (inB v7 ((v4.cell 2).list).length) ((Gr06_in.f ((rd ((v4.cell 2).list) v7.toNat).int) (-2147483648) 2147483647).bind fun r2 => bif (!r2) then some false else Gr06_areas.l13470 k v1 v3 v4 (IntKind.i64.wrap (v7 + 1)) κ3) else κ3 (v1, v3)
def Gr06_areas.l26 : Nat → D → Int → (D → Option Bool) → Option Bool
  | 0, _, _, _ => none
  | k + 1, v1, v3, κ1 =>
    bif decide (v3 < (((v1.cell 1).list).length : Int)) then gd (inB v3 ((v1.cell 1).list).length) (bif ((rd ((v1.cell 1).list) v3.toNat).cell 1).bool then (Gr02_Quote.f (((rd ((v1.cell 1).list) v3.toNat).cell 0).str)).bind fun r1 => bif ((r1.2 != 0) || (decide (((((rd ((v1.cell 1).list) v3.toNat).cell 2).list).length : Int) > 0))) then some false else Gr06_areas.l26 k v1 (IntKind.i64.wrap (v3 + 1)) κ1 else bif ((!((((rd ((v1.cell 1).list) v3.toNat).cell 0).str).toList == strNil.toList)) || (((((rd ((v1.cell 1).list) v3.toNat).cell 2).list).length : Int) == 0)) then some false else Gr06_areas.l13470 NN v1 v3 (rd ((v1.cell 1).list) v3.toNat) 0 (fun y3 => Gr06_areas.l26 k y3.1 (IntKind.i64.wrap (y3.2 + 1)) κ1)) else κ1 v1
def Gr06_areas.l14926 : Nat → D → Int → D → Int → ((D × Int) → Option Bool) → Option Bool
  | 0, _, _, _, _, _ => none
  | k + 1, v1, v8, v9, v10, κ7 =>
    bif decide (v10 < v8) then gd (inB v10 ((v1.cell 3).list).length) (bif ((((rd ((v1.cell 3).list) v10.toNat).cell 0).int) == ((v9.cell 0).int)) then some false else Gr06_areas.l14926 k v1 v8 v9 (IntKind.i64.wrap (v10 + 1)) κ7) else κ7 (v1, v8)
def Gr06_areas.l58 : Nat → D → Int → (D → Option Bool) → Option Bool
  | 0, _, _, _ => none
  | k + 1, v1, v8, κ5 =>
    bif decide (v8 < (((v1.cell 3).list).length : Int)) then gd (inB v8 ((v1.cell 3).list).length) ((Gr06_in.f (((rd ((v1.cell 3).list) v8.toNat).cell 0).int) 1 199).bind fun r5 => (bif (!(!r5)) then Gr06_in.f (((rd ((v1.cell 3).list) v8.toNat).cell 1).int) 1 ((v1.cell 4).int) else some false).bind fun r6 => bif ((!r5) || (!r6)) then some false else Gr06_areas.l14926 NN v1 v8 (rd ((v1.cell 3).list) v8.toNat) 0 (fun y7 => Gr06_areas.l58 k y7.1 (IntKind.i64.wrap (y7.2 + 1)) κ5)) else κ5 v1
def Gr06_areas.f (a0 : D) : Option Bool :=
  Gr06_areas.l26 NN a0 0 (fun y4 => Gr06_areas.l58 NN y4 0 (fun y8 => (Gr02_Quote.f ((y8.cell 0).str)).bind fun r9 => some (r9.2 == 0)))
def Gr06_areas.pk : List FK := [.st 26]
def Gr06_areas.rk : List FK := [.bool]
def Gr06_areas.g : Tp Gr06_areas.pk → Option (Tp Gr06_areas.rk) := fun x => Gr06_areas.f x
def Gr06_areas.ρ : List (Entry (Tp Gr06_areas.rk)) := [entry _ Try.prog 70 Gr02_Quote.pk Gr02_Quote.rk Gr02_Quote.g, entry _ Try.prog 71 Gr06_in.pk Gr06_in.rk Gr06_in.g]
theorem Gr06_areas.hρ : ∀ e ∈ Gr06_areas.ρ, EntryOk Try.prog e :=
  ents_cons (ent (fn := Try.f70) Gr02_Quote.spec (by kernel_rfl) (by kernel_rfl) (by kernel_rfl) (by kernel_rfl)) (ents_cons (ent (fn := Try.f71) Gr06_in.spec (by kernel_rfl) (by kernel_rfl) (by kernel_rfl) (by kernel_rfl)) (ents_nil))
def Gr06_areas.fr13470 : Fr := [(1, .bx (.st 26)), (3, .int .i64), (4, .bx (.st 47)), (7, .int .i64)]
def Gr06_areas.ou13470 : Outs := [(3, [(1, .bx (.st 26)), (3, .int .i64)])]
def Gr06_areas.T13470 (k : Nat) (x : Gr06_areas.fr13470.T) (κ : Kp (Tp Gr06_areas.rk) Gr06_areas.ou13470) : Option (Tp Gr06_areas.rk) := Gr06_areas.l13470 k x.1 x.2.1 x.2.2.1 x.2.2.2 κ.1
def Gr06_areas.fr26 : Fr := [(1, .bx (.st 26)), (3, .int .i64)]
def Gr06_areas.ou26 : Outs := [(1, [(1, .bx (.st 26))])]
def Gr06_areas.T26 (k : Nat) (x : Gr06_areas.fr26.T) (κ : Kp (Tp Gr06_areas.rk) Gr06_areas.ou26) : Option (Tp Gr06_areas.rk) := Gr06_areas.l26 k x.1 x.2 κ.1
def Gr06_areas.fr14926 : Fr := [(1, .bx (.st 26)), (8, .int .i64), (9, .bx (.st 68)), (10, .int .i64)]
def Gr06_areas.ou14926 : Outs := [(7, [(1, .bx (.st 26)), (8, .int .i64)])]
def Gr06_areas.T14926 (k : Nat) (x : Gr06_areas.fr14926.T) (κ : Kp (Tp Gr06_areas.rk) Gr06_areas.ou14926) : Option (Tp Gr06_areas.rk) := Gr06_areas.l14926 k x.1 x.2.1 x.2.2.1 x.2.2.2 κ.1
def Gr06_areas.fr58 : Fr := [(1, .bx (.st 26)), (8, .int .i64)]
def Gr06_areas.ou58 : Outs := [(5, [(1, .bx (.st 26))])]
def Gr06_areas.T58 (k : Nat) (x : Gr06_areas.fr58.T) (κ : Kp (Tp Gr06_areas.rk) Gr06_areas.ou58) : Option (Tp Gr06_areas.rk) := Gr06_areas.l58 k x.1 x.2 κ.1
def Gr06_areas.Λ0 : Cuts (Tp Gr06_areas.rk) := cutsOf []
def Gr06_areas.Λ1 : Cuts (Tp Gr06_areas.rk) := cutsOf [(13470, cut Try.prog Gr06_areas.fr13470 Gr06_areas.ou13470 (Gr06_areas.T13470 NN))]
def Gr06_areas.Λ2 : Cuts (Tp Gr06_areas.rk) := cutsOf [(26, cut Try.prog Gr06_areas.fr26 Gr06_areas.ou26 (Gr06_areas.T26 NN)), (13470, cut Try.prog Gr06_areas.fr13470 Gr06_areas.ou13470 (Gr06_areas.T13470 NN))]
def Gr06_areas.Λ3 : Cuts (Tp Gr06_areas.rk) := cutsOf [(14926, cut Try.prog Gr06_areas.fr14926 Gr06_areas.ou14926 (Gr06_areas.T14926 NN)), (26, cut Try.prog Gr06_areas.fr26 Gr06_areas.ou26 (Gr06_areas.T26 NN)), (13470, cut Try.prog Gr06_areas.fr13470 Gr06_areas.ou13470 (Gr06_areas.T13470 NN))]
def Gr06_areas.Λ : Cuts (Tp Gr06_areas.rk) := cutsOf [(58, cut Try.prog Gr06_areas.fr58 Gr06_areas.ou58 (Gr06_areas.T58 NN)), (14926, cut Try.prog Gr06_areas.fr14926 Gr06_areas.ou14926 (Gr06_areas.T14926 NN)), (26, cut Try.prog Gr06_areas.fr26 Gr06_areas.ou26 (Gr06_areas.T26 NN)), (13470, cut Try.prog Gr06_areas.fr13470 Gr06_areas.ou13470 (Gr06_areas.T13470 NN))]
theorem Gr06_areas.c13470 (A : Nat → Prop) (w0 : World) : CutOk Try.prog ⟨Try.f43.ntmps, A⟩ w0 (kRet Try.prog Try.f43.results.toList Gr06_areas.rk) (bodyOf Try.f43) 13470 (cut Try.prog Gr06_areas.fr13470 Gr06_areas.ou13470 (Gr06_areas.T13470 NN)) :=
  loop_ok Gr06_areas.hρ (Λ := Gr06_areas.Λ0) (cuts_nil) (by kernel_rfl) (D := 64) (b := loopOf Try.f43 13470) (by kernel_rfl) (by kernel_rfl) NN (fun x κ => by kernel_rfl) (fun k x κ => by kernel_rfl)
theorem Gr06_areas.c26 (A : Nat → Prop) (w0 : World) : CutOk Try.prog ⟨Try.f43.ntmps, A⟩ w0 (kRet Try.prog Try.f43.results.toList Gr06_areas.rk) (bodyOf Try.f43) 26 (cut Try.prog Gr06_areas.fr26 Gr06_areas.ou26 (Gr06_areas.T26 NN)) :=
  loop_ok Gr06_areas.hρ (Λ := Gr06_areas.Λ1) (cuts_cons (Gr06_areas.c13470 A w0) (cuts_nil)) (by kernel_rfl) (D := 64) (b := loopOf Try.f43 26) (by kernel_rfl) (by kernel_rfl) NN (fun x κ => by kernel_rfl) (fun k x κ => by kernel_rfl)
theorem Gr06_areas.c14926 (A : Nat → Prop) (w0 : World) : CutOk Try.prog ⟨Try.f43.ntmps, A⟩ w0 (kRet Try.prog Try.f43.results.toList Gr06_areas.rk) (bodyOf Try.f43) 14926 (cut Try.prog Gr06_areas.fr14926 Gr06_areas.ou14926 (Gr06_areas.T14926 NN)) :=
  loop_ok Gr06_areas.hρ (Λ := Gr06_areas.Λ2) (cuts_cons (Gr06_areas.c26 A w0) (cuts_cons (Gr06_areas.c13470 A w0) (cuts_nil))) (by kernel_rfl) (D := 64) (b := loopOf Try.f43 14926) (by kernel_rfl) (by kernel_rfl) NN (fun x κ => by kernel_rfl) (fun k x κ => by kernel_rfl)
theorem Gr06_areas.c58 (A : Nat → Prop) (w0 : World) : CutOk Try.prog ⟨Try.f43.ntmps, A⟩ w0 (kRet Try.prog Try.f43.results.toList Gr06_areas.rk) (bodyOf Try.f43) 58 (cut Try.prog Gr06_areas.fr58 Gr06_areas.ou58 (Gr06_areas.T58 NN)) :=
  loop_ok Gr06_areas.hρ (Λ := Gr06_areas.Λ3) (cuts_cons (Gr06_areas.c14926 A w0) (cuts_cons (Gr06_areas.c26 A w0) (cuts_cons (Gr06_areas.c13470 A w0) (cuts_nil)))) (by kernel_rfl) (D := 64) (b := loopOf Try.f43 58) (by kernel_rfl) (by kernel_rfl) NN (fun x κ => by kernel_rfl) (fun k x κ => by kernel_rfl)
theorem Gr06_areas.spec : Spec Try.prog 43 Gr06_areas.pk Gr06_areas.rk Gr06_areas.g :=
  spec_of_body (fn := Try.f43) (c := bodyOf Try.f43) (by kernel_rfl) (by kernel_rfl) (by kernel_rfl) (by kernel_rfl) (ρ := Gr06_areas.ρ) Gr06_areas.hρ (Λ := Gr06_areas.Λ) (fun A w0 => cuts_cons (Gr06_areas.c58 A w0) (cuts_cons (Gr06_areas.c14926 A w0) (cuts_cons (Gr06_areas.c26 A w0) (cuts_cons (Gr06_areas.c13470 A w0) (cuts_nil))))) (fun x => by kernel_rfl)

/-! ### 44 bluebell/bluebellref06.numbers -/
def Gr06_numbers.p4030463 (v2 : D) (v3 : D) (v40 : Int) (v93 : Bool) (κ0 : D → Option Bool) : Option Bool :=
  bif v93 then (Gr06_in.f ((v3.cell 1).int) 1 ((v2.cell 5).int)).bind fun r9 => some r9 else bif (v40 == 24) then (Gr06_in.f ((v3.cell 1).int) 1 ((v2.cell 4).int)).bind fun r10 => (bif r10 then Gr06_in.f ((v3.cell 2).int) 0 8 else some false).bind fun r11 => some (r10 && r11) else bif (v40 == 29) then (Gr06_in.f ((v3.cell 1).int) 1 ((v2.cell 5).int)).bind fun r12 => (bif r12 then Gr06_in.f ((v3.cell 2).int) 0 1000 else some false).bind fun r13 => some (r12 && r13) else bif (v40 == 30) then (Gr06_in.f ((v3.cell 2).int) 1 ((v2.cell 5).int)).bind fun r14 => some r14 else κ0 v3
def Gr06_numbers.p15743 (v2 : D) (v3 : D) (v40 : Int) (v60 : Bool) (κ0 : D → Option Bool) : Option Bool :=
  bif v60 then (Gr06_in.f ((v3.cell 1).int) 0 (IntKind.i64.wrap ((((v2.cell 1).list).length : Int) - 1))).bind fun r6 => some r6 else bif (v40 == 11) then (Gr06_in.f ((v3.cell 1).int) 1 ((v2.cell 4).int)).bind fun r7 => some r7 else bif (v40 == 16) then (Gr06_in.f ((v3.cell 1).int) 1 17).bind fun r8 => some r8 else bif (v40 == 17) then some ((((v3.cell 1).int) == 18) || (((v3.cell 1).int) == 19)) else bif (v40 == 19) then Gr06_numbers.p4030463 v2 v3 v40 (v40 == 19) (fun y15 => κ0 y15) else bif (v40 == 20) then Gr06_numbers.p4030463 v2 v3 v40 (v40 == 20) (fun y16 => κ0 y16) else bif (v40 == 21) then Gr06_numbers.p4030463 v2 v3 v40 (v40 == 21) (fun y17 => κ0 y17) else bif (v40 == 22) then Gr06_numbers.p4030463 v2 v3 v40 (v40 == 22) (fun y18 => κ0 y18) else Gr06_numbers.p4030463 v2 v3 v40 (v40 == 27) (fun y19 => κ0 y19)
def Gr06_numbers.p3935 (v2 : D) (v3 : D) (v40 : Int) (v53 : Bool) (κ0 : D → Option Bool) : Option Bool :=
  bif v53 then (Gr06_in.f ((v3.cell 1).int) 0 199).bind fun r5 => some r5 else bif (v40 == 8) then Gr06_numbers.p15743 v2 v3 v40 (v40 == 8) (fun y20 => κ0 y20) else bif (v40 == 9) then Gr06_numbers.p15743 v2 v3 v40 (v40 == 9) (fun y21 => κ0 y21) else Gr06_numbers.p15743 v2 v3 v40 (v40 == 10) (fun y22 => κ0 y22)
def Gr06_numbers.p983 (v2 : D) (v3 : D) (v40 : Int) (v43 : Bool) (κ0 : D → Option Bool) : Option Bool :=
  bif v43 then (Gr06_in.f ((v3.cell 1).int) 0 4000).bind fun r4 => some r4 else bif (v40 == 5) then Gr06_numbers.p3935 v2 v3 v40 (v40 == 5) (fun y23 => κ0 y23) else bif (v40 == 6) then Gr06_numbers.p3935 v2 v3 v40 (v40 == 6) (fun y24 => κ0 y24) else Gr06_numbers.p3935 v2 v3 v40 (v40 == 7) (fun y25 => κ0 y25)
def Gr06_numbers.p31 (v3 : D) : Option Bool :=
  some (((v3.cell 1).int) == 0)
def Gr06_numbers.f (a0 : D) (a1 : D) : Option Bool :=
  (Gr06_in.f ((a1.cell 0).int) 1 30).bind fun r1 => (bif (!(!r1)) then Gr06_in.f ((a1.cell 1).int) (-2147483648) 2147483647 else some false).bind fun r2 => (bif (!((!r1) || (!r2))) then Gr06_in.f ((a1.cell 2).int) (-2147483648) 2147483647 else some false).bind fun r3 => bif (((!r1) || (!r2)) || (!r3)) then some false else bif ((((((a1.cell 0).int) != 24) && (((a1.cell 0).int) != 29)) && (((a1.cell 0).int) != 30)) && (((a1.cell 2).int) != 0)) then some false else bif (((a1.cell 0).int) == 1) then some true else bif (((a1.cell 0).int) == 2) then Gr06_numbers.p983 a0 a1 ((a1.cell 0).int) (((a1.cell 0).int) == 2) (fun y26 => Gr06_numbers.p31 y26) else bif (((a1.cell 0).int) == 3) then Gr06_numbers.p983 a0 a1 ((a1.cell 0).int) (((a1.cell 0).int) == 3) (fun y27 => Gr06_numbers.p31 y27) else bif (((a1.cell 0).int) == 4) then Gr06_numbers.p983 a0 a1 ((a1.cell 0).int) (((a1.cell 0).int) == 4) (fun y28 => Gr06_numbers.p31 y28) else bif (((a1.cell 0).int) == 23) then Gr06_numbers.p983 a0 a1 ((a1.cell 0).int) (((a1.cell 0).int) == 23) (fun y29 => Gr06_numbers.p31 y29) else bif (((a1.cell 0).int) == 18) then Gr06_numbers.p983 a0 a1 ((a1.cell 0).int) (((a1.cell 0).int) == 18) (fun y30 => Gr06_numbers.p31 y30) else Gr06_numbers.p983 a0 a1 ((a1.cell 0).int) (((a1.cell 0).int) == 28) (fun y31 => Gr06_numbers.p31 y31)
def Gr06_numbers.pk : List FK := [.st 26, .st 35]
def Gr06_numbers.rk : List FK := [.bool]
def Gr06_numbers.g : Tp Gr06_numbers.pk → Option (Tp Gr06_numbers.rk) := fun x => Gr06_numbers.f x.1 x.2
def Gr06_numbers.ρ : List (Entry (Tp Gr06_numbers.rk)) := [entry _ Try.prog 71 Gr06_in.pk Gr06_in.rk Gr06_in.g]
theorem Gr06_numbers.hρ : ∀ e ∈ Gr06_numbers.ρ, EntryOk Try.prog e :=
  ents_cons (ent (fn := Try.f71) Gr06_in.spec (by kernel_rfl) (by kernel_rfl) (by kernel_rfl) (by kernel_rfl)) (ents_nil)
def Gr06_numbers.fr4030463 : Fr := [(2, .bx (.st 26)), (3, .bx (.st 35)), (40, .int .i64), (93, .bool)]
def Gr06_numbers.ou4030463 : Outs := [(0, [(3, .bx (.st 35))])]
def Gr06_numbers.T4030463 (x : Gr06_numbers.fr4030463.T) (κ : Kp (Tp Gr06_numbers.rk) Gr06_numbers.ou4030463) : Option (Tp Gr06_numbers.rk) := Gr06_numbers.p4030463 x.1 x.2.1 x.2.2.1 x.2.2.2 κ.1
def Gr06_numbers.fr15743 : Fr := [(2, .bx (.st 26)), (3, .bx (.st 35)), (40, .int .i64), (60, .bool)]
def Gr06_numbers.ou15743 : Outs := [(0, [(3, .bx (.st 35))])]
def Gr06_numbers.T15743 (x : Gr06_numbers.fr15743.T) (κ : Kp (Tp Gr06_numbers.rk) Gr06_numbers.ou15743) : Option (Tp Gr06_numbers.rk) := Gr06_numbers.p15743 x.1 x.2.1 x.2.2.1 x.2.2.2 κ.1
def Gr06_numbers.fr3935 : Fr := [(2, .bx (.st 26)), (3, .bx (.st 35)), (40, .int .i64), (53, .bool)]
def Gr06_numbers.ou3935 : Outs := [(0, [(3, .bx (.st 35))])]
def Gr06_numbers.T3935 (x : Gr06_numbers.fr3935.T) (κ : Kp (Tp Gr06_numbers.rk) Gr06_numbers.ou3935) : Option (Tp Gr06_numbers.rk) := Gr06_numbers.p3935 x.1 x.2.1 x.2.2.1 x.2.2.2 κ.1
def Gr06_numbers.fr983 : Fr := [(2, .bx (.st 26)), (3, .bx (.st 35)), (40, .int .i64), (43, .bool)]
def Gr06_numbers.ou983 : Outs := [(0, [(3, .bx (.st 35))])]
def Gr06_numbers.T983 (x : Gr06_numbers.fr983.T) (κ : Kp (Tp Gr06_numbers.rk) Gr06_numbers.ou983) : Option (Tp Gr06_numbers.rk) := Gr06_numbers.p983 x.1 x.2.1 x.2.2.1 x.2.2.2 κ.1
def Gr06_numbers.fr31 : Fr := [(3, .bx (.st 35))]
def Gr06_numbers.ou31 : Outs := []
def Gr06_numbers.T31 (x : Gr06_numbers.fr31.T) (κ : Kp (Tp Gr06_numbers.rk) Gr06_numbers.ou31) : Option (Tp Gr06_numbers.rk) := Gr06_numbers.p31 x
def Gr06_numbers.Λ0 : Cuts (Tp Gr06_numbers.rk) := cutsOf []
def Gr06_numbers.Λ1 : Cuts (Tp Gr06_numbers.rk) := cutsOf [(4030463, cut Try.prog Gr06_numbers.fr4030463 Gr06_numbers.ou4030463 (Gr06_numbers.T4030463))]
def Gr06_numbers.Λ2 : Cuts (Tp Gr06_numbers.rk) := cutsOf [(15743, cut Try.prog Gr06_numbers.fr15743 Gr06_numbers.ou15743 (Gr06_numbers.T15743)), (4030463, cut Try.prog Gr06_numbers.fr4030463 Gr06_numbers.ou4030463 (Gr06_numbers.T4030463))]
def Gr06_numbers.Λ3 : Cuts (Tp Gr06_numbers.rk) := cutsOf [(3935, cut Try.prog Gr06_numbers.fr3935 Gr06_numbers.ou3935 (Gr06_numbers.T3935)), (15743, cut Try.prog Gr06_numbers.fr15743 Gr06_numbers.ou15743 (Gr06_numbers.T15743)), (4030463, cut Try.prog Gr06_numbers.fr4030463 Gr06_numbers.ou4030463 (Gr06_numbers.T4030463))]
def Gr06_numbers.Λ4 : Cuts (Tp Gr06_numbers.rk) := cutsOf [(983, cut Try.prog Gr06_numbers.fr983 Gr06_numbers.ou983 (Gr06_numbers.T983)), (3935, cut Try.prog Gr06_numbers.fr3935 Gr06_numbers.ou3935 (Gr06_numbers.T3935)), (15743, cut Try.prog Gr06_numbers.fr15743 Gr06_numbers.ou15743 (Gr06_numbers.T15743)), (4030463, cut Try.prog Gr06_numbers.fr4030463 Gr06_numbers.ou4030463 (Gr06_numbers.T4030463))]
def Gr06_numbers.Λ : Cuts (Tp Gr06_numbers.rk) := cutsOf [(31, cut Try.prog Gr06_numbers.fr31 Gr06_numbers.ou31 (Gr06_numbers.T31)), (983, cut Try.prog Gr06_numbers.fr983 Gr06_numbers.ou983 (Gr06_numbers.T983)), (3935, cut Try.prog Gr06_numbers.fr3935 Gr06_numbers.ou3935 (Gr06_numbers.T3935)), (15743, cut Try.prog Gr06_numbers.fr15743 Gr06_numbers.ou15743 (Gr06_numbers.T15743)), (4030463, cut Try.prog Gr06_numbers.fr4030463 Gr06_numbers.ou4030463 (Gr06_numbers.T4030463))]
theorem Gr06_numbers.c4030463 (A : Nat → Prop) (w0 : World) : CutOk Try.prog ⟨Try.f44.ntmps, A⟩ w0 (kRet Try.prog Try.f44.results.toList Gr06_numbers.rk) (bodyOf Try.f44) 4030463 (cut Try.prog Gr06_numbers.fr4030463 Gr06_numbers.ou4030463 (Gr06_numbers.T4030463)) :=
  cut_ok Gr06_numbers.hρ (Λ := Gr06_numbers.Λ0) (cuts_nil) (by kernel_rfl) (by kernel_rfl) (D := 64) (c := nodeOf Try.f44 4030463) (by kernel_rfl) (by kernel_rfl) (fun x κ => by kernel_rfl)
theorem Gr06_numbers.c15743 (A : Nat → Prop) (w0 : World) : CutOk Try.prog ⟨Try.f44.ntmps, A⟩ w0 (kRet Try.prog Try.f44.results.toList Gr06_numbers.rk) (bodyOf Try.f44) 15743 (cut Try.prog Gr06_numbers.fr15743 Gr06_numbers.ou15743 (Gr06_numbers.T15743)) :=
  cut_ok Gr06_numbers.hρ (Λ := Gr06_numbers.Λ1) (cuts_cons (Gr06_numbers.c4030463 A w0) (cuts_nil)) (by kernel_rfl) (by kernel_rfl) (D := 64) (c := nodeOf Try.f44 15743) (by kernel_rfl) (by kernel_rfl) (fun x κ => by kernel_rfl)
theorem Gr06_numbers.c3935 (A : Nat → Prop) (w0 : World) : CutOk Try.prog ⟨Try.f44.ntmps, A⟩ w0 (kRet Try.prog Try.f44.results.toList Gr06_numbers.rk) (bodyOf Try.f44) 3935 (cut Try.prog Gr06_numbers.fr3935 Gr06_numbers.ou3935 (Gr06_numbers.T3935)) :=
  cut_ok Gr06_numbers.hρ (Λ := Gr06_numbers.Λ2) (cuts_cons (Gr06_numbers.c15743 A w0) (cuts_cons (Gr06_numbers.c4030463 A w0) (cuts_nil))) (by kernel_rfl) (by kernel_rfl) (D := 64) (c := nodeOf Try.f44 3935) (by kernel_rfl) (by kernel_rfl) (fun x κ => by kernel_rfl)
theorem Gr06_numbers.c983 (A : Nat → Prop) (w0 : World) : CutOk Try.prog ⟨Try.f44.ntmps, A⟩ w0 (kRet Try.prog Try.f44.results.toList Gr06_numbers.rk) (bodyOf Try.f44) 983 (cut Try.prog Gr06_numbers.fr983 Gr06_numbers.ou983 (Gr06_numbers.T983)) :=
  cut_ok Gr06_numbers.hρ (Λ := Gr06_numbers.Λ3) (cuts_cons (Gr06_numbers.c3935 A w0) (cuts_cons (Gr06_numbers.c15743 A w0) (cuts_cons (Gr06_numbers.c4030463 A w0) (cuts_nil)))) (by kernel_rfl) (by kernel_rfl) (D := 64) (c := nodeOf Try.f44 983) (by kernel_rfl) (by kernel_rfl) (fun x κ => by kernel_rfl)
theorem Gr06_numbers.c31 (A : Nat → Prop) (w0 : World) : CutOk Try.prog ⟨Try.f44.ntmps, A⟩ w0 (kRet Try.prog Try.f44.results.toList Gr06_numbers.rk) (bodyOf Try.f44) 31 (cut Try.prog Gr06_numbers.fr31 Gr06_numbers.ou31 (Gr06_numbers.T31)) :=
  cut_ok Gr06_numbers.hρ (Λ := Gr06_numbers.Λ4) (cuts_cons (Gr06_numbers.c983 A w0) (cuts_cons (Gr06_numbers.c3935 A w0) (cuts_cons (Gr06_numbers.c15743 A w0) (cuts_cons (Gr06_numbers.c4030463 A w0) (cuts_nil))))) (by kernel_rfl) (by kernel_rfl) (D := 64) (c := nodeOf Try.f44 31) (by kernel_rfl) (by kernel_rfl) (fun x κ => by kernel_rfl)
theorem Gr06_numbers.spec : Spec Try.prog 44 Gr06_numbers.pk Gr06_numbers.rk Gr06_numbers.g :=
  spec_of_body (fn := Try.f44) (c := bodyOf Try.f44) (by kernel_rfl) (by kernel_rfl) (by kernel_rfl) (by kernel_rfl) (ρ := Gr06_numbers.ρ) Gr06_numbers.hρ (Λ := Gr06_numbers.Λ) (fun A w0 => cuts_cons (Gr06_numbers.c31 A w0) (cuts_cons (Gr06_numbers.c983 A w0) (cuts_cons (Gr06_numbers.c3935 A w0) (cuts_cons (Gr06_numbers.c15743 A w0) (cuts_cons (Gr06_numbers.c4030463 A w0) (cuts_nil)))))) (fun x => by kernel_rfl)

/-! ### 72 bluebell/bluebellref06.GoesOn -/
def Gr06_GoesOn.f (a0 : D) : Option Bool :=
  some ((((((((a0.cell 0).int) != 20) && (((a0.cell 0).int) != 25)) && (((a0.cell 0).int) != 26)) && (((a0.cell 0).int) != 27)) && (((a0.cell 0).int) != 29)) && (((a0.cell 0).int) != 30))
def Gr06_GoesOn.pk : List FK := [.st 35]
def Gr06_GoesOn.rk : List FK := [.bool]
def Gr06_GoesOn.g : Tp Gr06_GoesOn.pk → Option (Tp Gr06_GoesOn.rk) := fun x => Gr06_GoesOn.f x
def Gr06_GoesOn.ρ : List (Entry (Tp Gr06_GoesOn.rk)) := []
theorem Gr06_GoesOn.hρ : ∀ e ∈ Gr06_GoesOn.ρ, EntryOk Try.prog e :=
  ents_nil
def Gr06_GoesOn.Λ : Cuts (Tp Gr06_GoesOn.rk) := cutsOf []
theorem Gr06_GoesOn.spec : Spec Try.prog 72 Gr06_GoesOn.pk Gr06_GoesOn.rk Gr06_GoesOn.g :=
  spec_of_body (fn := Try.f72) (c := bodyOf Try.f72) (by kernel_rfl) (by kernel_rfl) (by kernel_rfl) (by kernel_rfl) (ρ := Gr06_GoesOn.ρ) Gr06_GoesOn.hρ (Λ := Gr06_GoesOn.Λ) (fun A w0 => cuts_nil) (fun x => by kernel_rfl)

/-! ### 45 bluebell/bluebellref06.order -/
def Gr06_order.p29855 (v1 : D) (v3 : Int) (v4 : Int) (v5 : Int) (v6 : Int) (v7 : D) (v8 : Bool) (κ0 : (D × Int × Int × Int × Int) → Option Bool) : Option Bool :=
  (Gr06_GoesOn.f v7).bind fun r1 => gd ((!(r1 && (!v8))) || (inB (IntKind.i64.wrap (v6 + 1)) ((v1.cell 2).list).length)) (bif ((r1 && (v8 || ((((rd ((v1.cell 2).list) (IntKind.i64.wrap (v6 + 1)).toNat).cell 0).int) == 24))) || ((v6 == 0) && (((v7.cell 0).int) != 24))) then some false else κ0 (v1, v3, v4, v5, v6))
def Gr06_order.p7463 (v1 : D) (v3 : Int) (v4 : Int) (v5 : Int) (v6 : Int) (v7 : D) (κ0 : (D × Int × Int × Int × Int) → Option Bool) : Option Bool :=
  bif (((v7.cell 0).int) == 24) then bif (((v7.cell 1).int) != (IntKind.i64.wrap (v3 + 1))) then some false else Gr06_order.p29855 v1 (IntKind.i64.wrap (v3 + 1)) v4 v5 v6 v7 (decide ((IntKind.i64.wrap (v6 + 1)) ≥ (((v1.cell 2).list).length : Int))) (fun y2 => κ0 (y2.1, y2.2.1, y2.2.2.1, y2.2.2.2.1, y2.2.2.2.2)) else bif (((v7.cell 0).int) == 29) then Gr06_order.p29855 v1 v3 v4 ((v7.cell 2).int) v6 v7 (decide ((IntKind.i64.wrap (v6 + 1)) ≥ (((v1.cell 2).list).length : Int))) (fun y3 => κ0 (y3.1, y3.2.1, y3.2.2.1, y3.2.2.2.1, y3.2.2.2.2)) else bif (((v7.cell 0).int) == 19) then gd ((!(!(decide ((IntKind.i64.wrap (v6 + 1)) ≥ (((v1.cell 2).list).length : Int))))) || (inB (IntKind.i64.wrap (v6 + 1)) ((v1.cell 2).list).length)) (gd ((!((!(decide ((IntKind.i64.wrap (v6 + 1)) ≥ (((v1.cell 2).list).length : Int)))) && ((((rd ((v1.cell 2).list) (IntKind.i64.wrap (v6 + 1)).toNat).cell 0).int) != 18))) || (inB (IntKind.i64.wrap (v6 + 1)) ((v1.cell 2).list).length)) (gd ((!((!(decide ((IntKind.i64.wrap (v6 + 1)) ≥ (((v1.cell 2).list).length : Int)))) && (((((rd ((v1.cell 2).list) (IntKind.i64.wrap (v6 + 1)).toNat).cell 0).int) != 18) && ((((rd ((v1.cell 2).list) (IntKind.i64.wrap (v6 + 1)).toNat).cell 0).int) != 28)))) || (inB (IntKind.i64.wrap (v6 + 1)) ((v1.cell 2).list).length)) (bif ((decide ((IntKind.i64.wrap (v6 + 1)) ≥ (((v1.cell 2).list).length : Int))) || ((((((rd ((v1.cell 2).list) (IntKind.i64.wrap (v6 + 1)).toNat).cell 0).int) != 18) && ((((rd ((v1.cell 2).list) (IntKind.i64.wrap (v6 + 1)).toNat).cell 0).int) != 28)) && ((((rd ((v1.cell 2).list) (IntKind.i64.wrap (v6 + 1)).toNat).cell 0).int) != 19))) then some false else Gr06_order.p29855 v1 v3 (if ((v7.cell 1).int) > v4 then ((v7.cell 1).int) else v4) v5 v6 v7 (decide ((IntKind.i64.wrap (v6 + 1)) ≥ (((v1.cell 2).list).length : Int))) (fun y4 => κ0 (y4.1, y4.2.1, y4.2.2.1, y4.2.2.2.1, y4.2.2.2.2))))) else Gr06_order.p29855 v1 v3 v4 v5 v6 v7 (decide ((IntKind.i64.wrap (v6 + 1)) ≥ (((v1.cell 2).list).length : Int))) (fun y5 => κ0 (y5.1, y5.2.1, y5.2.2.1, y5.2.2.2.1, y5.2.2.2.2))
def Gr06_order.l58 : Nat → D → Int → Int → Int → Int → ((D × Int × Int × Int) → Option Bool) → Option Bool
  | 0, _, _, _, _, _, _ => none
  | k + 1, v1, v3, v4, v5, v6, κ1 =>
    bif decide (v6 < (((v1.cell 2).list).length : Int)) then gd (inB v6 ((v1.cell 2).list).length) (bif (!((decide (v5 > 0)) == ((((rd ((v1.cell 2).list) v6.toNat).cell 0).int) == 30))) then some false else bif decide (v5 > 0) then Gr06_order.p7463 v1 v3 v4 (IntKind.i64.wrap (v5 - 1)) v6 (rd ((v1.cell 2).list) v6.toNat) (fun y6 => Gr06_order.l58 k y6.1 y6.2.1 y6.2.2.1 y6.2.2.2.1 (IntKind.i64.wrap (y6.2.2.2.2 + 1)) κ1) else Gr06_order.p7463 v1 v3 v4 v5 v6 (rd ((v1.cell 2).list) v6.toNat) (fun y7 => Gr06_order.l58 k y7.1 y7.2.1 y7.2.2.1 y7.2.2.2.1 (IntKind.i64.wrap (y7.2.2.2.2 + 1)) κ1)) else κ1 (v1, v3, v4, v5)
def Gr06_order.f (a0 : D) : Option Bool :=
  Gr06_order.l58 NN a0 0 0 0 0 (fun y8 => some (((y8.2.2.2 == 0) && (y8.2.1 == ((y8.1.cell 4).int))) && (y8.2.2.1 == ((y8.1.cell 5).int))))
def Gr06_order.pk : List FK := [.st 26]
def Gr06_order.rk : List FK := [.bool]
def Gr06_order.g : Tp Gr06_order.pk → Option (Tp Gr06_order.rk) := fun x => Gr06_order.f x
def Gr06_order.ρ : List (Entry (Tp Gr06_order.rk)) := [entry _ Try.prog 72 Gr06_GoesOn.pk Gr06_GoesOn.rk Gr06_GoesOn.g]
theorem Gr06_order.hρ : ∀ e ∈ Gr06_order.ρ, EntryOk Try.prog e :=
  ents_cons (ent (fn := Try.f72) Gr06_GoesOn.spec (by kernel_rfl) (by kernel_rfl) (by kernel_rfl) (by kernel_rfl)) (ents_nil)
def Gr06_order.fr29855 : Fr := [(1, .bx (.st 26)), (3, .int .i64), (4, .int .i64), (5, .int .i64), (6, .int .i64), (7, .bx (.st 35)), (8, .bool)]
def Gr06_order.ou29855 : Outs := [(0, [(1, .bx (.st 26)), (3, .int .i64), (4, .int .i64), (5, .int .i64), (6, .int .i64)])]
def Gr06_order.T29855 (x : Gr06_order.fr29855.T) (κ : Kp (Tp Gr06_order.rk) Gr06_order.ou29855) : Option (Tp Gr06_order.rk) := Gr06_order.p29855 x.1 x.2.1 x.2.2.1 x.2.2.2.1 x.2.2.2.2.1 x.2.2.2.2.2.1 x.2.2.2.2.2.2 κ.1
def Gr06_order.fr7463 : Fr := [(1, .bx (.st 26)), (3, .int .i64), (4, .int .i64), (5, .int .i64), (6, .int .i64), (7, .bx (.st 35))]
def Gr06_order.ou7463 : Outs := [(0, [(1, .bx (.st 26)), (3, .int .i64), (4, .int .i64), (5, .int .i64), (6, .int .i64)])]
def Gr06_order.T7463 (x : Gr06_order.fr7463.T) (κ : Kp (Tp Gr06_order.rk) Gr06_order.ou7463) : Option (Tp Gr06_order.rk) := Gr06_order.p7463 x.1 x.2.1 x.2.2.1 x.2.2.2.1 x.2.2.2.2.1 x.2.2.2.2.2 κ.1
def Gr06_order.fr58 : Fr := [(1, .bx (.st 26)), (3, .int .i64), (4, .int .i64), (5, .int .i64), (6, .int .i64)]
def Gr06_order.ou58 : Outs := [(1, [(1, .bx (.st 26)), (3, .int .i64), (4, .int .i64), (5, .int .i64)])]
def Gr06_order.T58 (k : Nat) (x : Gr06_order.fr58.T) (κ : Kp (Tp Gr06_order.rk) Gr06_order.ou58) : Option (Tp Gr06_order.rk) := Gr06_order.l58 k x.1 x.2.1 x.2.2.1 x.2.2.2.1 x.2.2.2.2 κ.1
def Gr06_order.Λ0 : Cuts (Tp Gr06_order.rk) := cutsOf []
def Gr06_order.Λ1 : Cuts (Tp Gr06_order.rk) := cutsOf [(29855, cut Try.prog Gr06_order.fr29855 Gr06_order.ou29855 (Gr06_order.T29855))]
def Gr06_order.Λ2 : Cuts (Tp Gr06_order.rk) := cutsOf [(7463, cut Try.prog Gr06_order.fr7463 Gr06_order.ou7463 (Gr06_order.T7463)), (29855, cut Try.prog Gr06_order.fr29855 Gr06_order.ou29855 (Gr06_order.T29855))]
def Gr06_order.Λ : Cuts (Tp Gr06_order.rk) := cutsOf [(58, cut Try.prog Gr06_order.fr58 Gr06_order.ou58 (Gr06_order.T58 NN)), (7463, cut Try.prog Gr06_order.fr7463 Gr06_order.ou7463 (Gr06_order.T7463)), (29855, cut Try.prog Gr06_order.fr29855 Gr06_order.ou29855 (Gr06_order.T29855))]
theorem Gr06_order.c29855 (A : Nat → Prop) (w0 : World) : CutOk Try.prog ⟨Try.f45.ntmps, A⟩ w0 (kRet Try.prog Try.f45.results.toList Gr06_order.rk) (bodyOf Try.f45) 29855 (cut Try.prog Gr06_order.fr29855 Gr06_order.ou29855 (Gr06_order.T29855)) :=
  cut_ok Gr06_order.hρ (Λ := Gr06_order.Λ0) (cuts_nil) (by kernel_rfl) (by kernel_rfl) (D := 64) (c := nodeOf Try.f45 29855) (by kernel_rfl) (by kernel_rfl) (fun x κ => by kernel_rfl)
theorem Gr06_order.c7463 (A : Nat → Prop) (w0 : World) : CutOk Try.prog ⟨Try.f45.ntmps, A⟩ w0 (kRet Try.prog Try.f45.results.toList Gr06_order.rk) (bodyOf Try.f45) 7463 (cut Try.prog Gr06_order.fr7463 Gr06_order.ou7463 (Gr06_order.T7463)) :=
  cut_ok Gr06_order.hρ (Λ := Gr06_order.Λ1) (cuts_cons (Gr06_order.c29855 A w0) (cuts_nil)) (by kernel_rfl) (by kernel_rfl) (D := 64) (c := nodeOf Try.f45 7463) (by kernel_rfl) (by kernel_rfl) (fun x κ => by kernel_rfl)
theorem Gr06_order.c58 (A : Nat → Prop) (w0 : World) : CutOk Try.prog ⟨Try.f45.ntmps, A⟩ w0 (kRet Try.prog Try.f45.results.toList Gr06_order.rk) (bodyOf Try.f45) 58 (cut Try.prog Gr06_order.fr58 Gr06_order.ou58 (Gr06_order.T58 NN)) :=
  loop_ok Gr06_order.hρ (Λ := Gr06_order.Λ2) (cuts_cons (Gr06_order.c7463 A w0) (cuts_cons (Gr06_order.c29855 A w0) (cuts_nil))) (by kernel_rfl) (D := 64) (b := loopOf Try.f45 58) (by kernel_rfl) (by kernel_rfl) NN (fun x κ => by kernel_rfl) (fun k x κ => by kernel_rfl)
theorem Gr06_order.spec : Spec Try.prog 45 Gr06_order.pk Gr06_order.rk Gr06_order.g :=
  spec_of_body (fn := Try.f45) (c := bodyOf Try.f45) (by kernel_rfl) (by kernel_rfl) (by kernel_rfl) (by kernel_rfl) (ρ := Gr06_order.ρ) Gr06_order.hρ (Λ := Gr06_order.Λ) (fun A w0 => cuts_cons (Gr06_order.c58 A w0) (cuts_cons (Gr06_order.c7463 A w0) (cuts_cons (Gr06_order.c29855 A w0) (cuts_nil)))) (fun x => by kernel_rfl)

/-! ### 15 bluebell/bluebellref06.Label -/
def Gr06_Label.p53 (v1 : D) (v4 : Int) (v5 : Bool) (κ0 : Unit → Option Int) : Option Int :=
  bif v5 then some ((v1.cell 1).int) else bif (v4 == 30) then some ((v1.cell 2).int) else κ0 ()
def Gr06_Label.f (a0 : D) : Option Int :=
  bif (((a0.cell 0).int) == 20) then Gr06_Label.p53 a0 ((a0.cell 0).int) (((a0.cell 0).int) == 20) (fun y1 => some 0) else bif (((a0.cell 0).int) == 21) then Gr06_Label.p53 a0 ((a0.cell 0).int) (((a0.cell 0).int) == 21) (fun y2 => some 0) else bif (((a0.cell 0).int) == 22) then Gr06_Label.p53 a0 ((a0.cell 0).int) (((a0.cell 0).int) == 22) (fun y3 => some 0) else bif (((a0.cell 0).int) == 27) then Gr06_Label.p53 a0 ((a0.cell 0).int) (((a0.cell 0).int) == 27) (fun y4 => some 0) else Gr06_Label.p53 a0 ((a0.cell 0).int) (((a0.cell 0).int) == 29) (fun y5 => some 0)
def Gr06_Label.pk : List FK := [.st 35]
def Gr06_Label.rk : List FK := [.int .i64]
def Gr06_Label.g : Tp Gr06_Label.pk → Option (Tp Gr06_Label.rk) := fun x => Gr06_Label.f x
def Gr06_Label.ρ : List (Entry (Tp Gr06_Label.rk)) := []
theorem Gr06_Label.hρ : ∀ e ∈ Gr06_Label.ρ, EntryOk Try.prog e :=
  ents_nil
def Gr06_Label.fr53 : Fr := [(1, .bx (.st 35)), (4, .int .i64), (5, .bool)]
def Gr06_Label.ou53 : Outs := [(0, [])]
def Gr06_Label.T53 (x : Gr06_Label.fr53.T) (κ : Kp (Tp Gr06_Label.rk) Gr06_Label.ou53) : Option (Tp Gr06_Label.rk) := Gr06_Label.p53 x.1 x.2.1 x.2.2 κ.1
def Gr06_Label.Λ0 : Cuts (Tp Gr06_Label.rk) := cutsOf []
def Gr06_Label.Λ : Cuts (Tp Gr06_Label.rk) := cutsOf [(53, cut Try.prog Gr06_Label.fr53 Gr06_Label.ou53 (Gr06_Label.T53))]
theorem Gr06_Label.c53 (A : Nat → Prop) (w0 : World) : CutOk Try.prog ⟨Try.f15.ntmps, A⟩ w0 (kRet Try.prog Try.f15.results.toList Gr06_Label.rk) (bodyOf Try.f15) 53 (cut Try.prog Gr06_Label.fr53 Gr06_Label.ou53 (Gr06_Label.T53)) :=
  cut_ok Gr06_Label.hρ (Λ := Gr06_Label.Λ0) (cuts_nil) (by kernel_rfl) (by kernel_rfl) (D := 64) (c := nodeOf Try.f15 53) (by kernel_rfl) (by kernel_rfl) (fun x κ => by kernel_rfl)
theorem Gr06_Label.spec : Spec Try.prog 15 Gr06_Label.pk Gr06_Label.rk Gr06_Label.g :=
  spec_of_body (fn := Try.f15) (c := bodyOf Try.f15) (by kernel_rfl) (by kernel_rfl) (by kernel_rfl) (by kernel_rfl) (ρ := Gr06_Label.ρ) Gr06_Label.hρ (Λ := Gr06_Label.Λ) (fun A w0 => cuts_cons (Gr06_Label.c53 A w0) (cuts_nil)) (fun x => by kernel_rfl)

/-! ### 46 bluebell/bluebellref06.placed -/
def Gr06_placed.l58 : Nat → D → D → ((List D × List D × Unit)) → Int → ((D × D × (List D × List D × Unit)) → Option (D × Bool)) → Option (D × Bool)
  | 0, _, _, _, _, _ => none
  | k + 1, v1, v2, v4, v5, κ1 =>
    bif decide (v5 ≤ ((v1.cell 5).int)) then gd (inB v5 v4.1.length) (gd (Nat.blt v5.toNat v4.1.length) (Gr06_placed.l58 k v1 v2 ((v4.1.set v5.toNat (.i (-1))), v4.2.1, ()) (IntKind.i64.wrap (v5 + 1)) κ1)) else κ1 (v1, v2, (v4.1, v4.2.1, ()))
def Gr06_placed.p8009 (v1 : D) (v2 : D) (v4 : (List D × List D × Unit)) (v6 : Int) (v7 : Int) (κ0 : (D × D × (List D × List D × Unit) × Int × Int) → Option (D × Bool)) : Option (D × Bool) :=
  gd (inB v7 v4.2.1.length) (gd (Nat.blt v7.toNat v4.2.1.length) (gd (inB v7 ((v1.cell 2).list).length) (bif ((((rd ((v1.cell 2).list) v7.toNat).cell 0).int) == 19) then gd (inB v7 ((v1.cell 2).list).length) (gd (inB (((rd ((v1.cell 2).list) v7.toNat).cell 1).int) v4.1.length) (gd (Nat.blt (((rd ((v1.cell 2).list) v7.toNat).cell 1).int).toNat v4.1.length) (bif decide (((rd v4.1 (((rd ((v1.cell 2).list) v7.toNat).cell 1).int).toNat).int) ≥ 0) then some (.r [.l v4.1, .l (v4.2.1.set v7.toNat (.i v6))], false) else gd (inB v7 ((v1.cell 2).list).length) (gd (inB (((rd ((v1.cell 2).list) v7.toNat).cell 1).int) v4.1.length) (gd (Nat.blt (((rd ((v1.cell 2).list) v7.toNat).cell 1).int).toNat v4.1.length) (κ0 (v1, v2, ((v4.1.set (((rd ((v1.cell 2).list) v7.toNat).cell 1).int).toNat (.i v7)), (v4.2.1.set v7.toNat (.i v6)), ()), v6, v7))))))) else κ0 (v1, v2, (v4.1, (v4.2.1.set v7.toNat (.i v6)), ()), v6, v7))))
def Gr06_placed.l250 : Nat → D → D → ((List D × List D × Unit)) → Int → Int → ((D × D × (List D × List D × Unit)) → Option (D × Bool)) → Option (D × Bool)
  | 0, _, _, _, _, _, _ => none
  | k + 1, v1, v2, v4, v6, v7, κ3 =>
    bif decide (v7 < (((v1.cell 2).list).length : Int)) then gd (inB v7 ((v1.cell 2).list).length) (bif ((((rd ((v1.cell 2).list) v7.toNat).cell 0).int) == 24) then Gr06_placed.p8009 v1 v2 (v4.1, v4.2.1, ()) (IntKind.i64.wrap (v6 + 1)) v7 (fun y2 => Gr06_placed.l250 k y2.1 y2.2.1 (y2.2.2.1.1, y2.2.2.1.2.1, ()) y2.2.2.2.1 (IntKind.i64.wrap (y2.2.2.2.2 + 1)) κ3) else Gr06_placed.p8009 v1 v2 (v4.1, v4.2.1, ()) v6 v7 (fun y3 => Gr06_placed.l250 k y3.1 y3.2.1 (y3.2.2.1.1, y3.2.2.1.2.1, ()) y3.2.2.2.1 (IntKind.i64.wrap (y3.2.2.2.2 + 1)) κ3)) else κ3 (v1, v2, (v4.1, v4.2.1, ()))
def Gr06_placed.l506 : Nat → D → D → ((List D × List D × Unit)) → Int → ((D × (List D × List D × Unit)) → Option (D × Bool)) → Option (D × Bool)
  | 0, _, _, _, _, _ => none
  | k + 1, v1, v2, v4, v8, κ5 =>
    bif decide (v8 < (((v1.cell 2).list).length : Int)) then gd (inB v8 ((v1.cell 2).list).length) ((Gr06_Label.f (rd ((v1.cell 2).list) v8.toNat)).bind fun r5 => gd ((!(decide (r5 > 0))) || (inB r5 v4.1.length)) (gd ((!(decide (r5 > 0))) || (Nat.blt r5.toNat v4.1.length)) (gd ((!((decide (r5 > 0)) && (!(decide (((rd v4.1 r5.toNat).int) < 0))))) || (inB r5 v4.1.length)) (gd ((!((decide (r5 > 0)) && (!(decide (((rd v4.1 r5.toNat).int) < 0))))) || (Nat.blt r5.toNat v4.1.length)) (gd ((!((decide (r5 > 0)) && (!(decide (((rd v4.1 r5.toNat).int) < 0))))) || (inB ((rd v4.1 r5.toNat).int) v4.2.1.length)) (gd ((!((decide (r5 > 0)) && (!(decide (((rd v4.1 r5.toNat).int) < 0))))) || (Nat.blt ((rd v4.1 r5.toNat).int).toNat v4.2.1.length)) (gd ((!((decide (r5 > 0)) && (!(decide (((rd v4.1 r5.toNat).int) < 0))))) || (inB v8 v4.2.1.length)) (gd ((!((decide (r5 > 0)) && (!(decide (((rd v4.1 r5.toNat).int) < 0))))) || (Nat.blt v8.toNat v4.2.1.length)) (bif ((decide (r5 > 0)) && ((decide (((rd v4.1 r5.toNat).int) < 0)) || (((rd v4.2.1 ((rd v4.1 r5.toNat).int).toNat).int) != ((rd v4.2.1 v8.toNat).int)))) then some (.r [.l v4.1, .l v4.2.1], false) else Gr06_placed.l506 k v1 v2 (v4.1, v4.2.1, ()) (IntKind.i64.wrap (v8 + 1)) κ5))))))))) else κ5 (v2, (v4.1, v4.2.1, ()))
def Gr06_placed.f (a0 : D) : Option (D × Bool) :=
  gd (decide (0 ≤ (IntKind.i64.wrap (((a0.cell 5).int) + 1))) && decide ((IntKind.i64.wrap (((a0.cell 5).int) + 1)) ≤ (lim : Int))) (gd (decide (0 ≤ (((a0.cell 2).list).length : Int)) && decide ((((a0.cell 2).list).length : Int) ≤ (lim : Int))) (Gr06_placed.l58 NN a0 (.r [.l [], .l []]) ((List.replicate (IntKind.i64.wrap (((a0.cell 5).int) + 1)).toNat (.i 0 : D)), (List.replicate (((a0.cell 2).list).length : Int).toNat (.i 0 : D)), ()) 0 (fun y1 => Gr06_placed.l250 NN y1.1 y1.2.1 (y1.2.2.1, y1.2.2.2.1, ()) 0 0 (fun y4 => Gr06_placed.l506 NN y4.1 y4.2.1 (y4.2.2.1, y4.2.2.2.1, ()) 0 (fun y6 => some (.r [.l y6.2.1, .l y6.2.2.1], true))))))
def Gr06_placed.pk : List FK := [.st 26]
def Gr06_placed.rk : List FK := [.st 60, .bool]
def Gr06_placed.g : Tp Gr06_placed.pk → Option (Tp Gr06_placed.rk) := fun x => Gr06_placed.f x
def Gr06_placed.ρ : List (Entry (Tp Gr06_placed.rk)) := [entry _ Try.prog 15 Gr06_Label.pk Gr06_Label.rk Gr06_Label.g]
theorem Gr06_placed.hρ : ∀ e ∈ Gr06_placed.ρ, EntryOk Try.prog e :=
  ents_cons (ent (fn := Try.f15) Gr06_Label.spec (by kernel_rfl) (by kernel_rfl) (by kernel_rfl) (by kernel_rfl)) (ents_nil)
def Gr06_placed.fr58 : Fr := [(1, .bx (.st 26)), (2, .bx (.st 60)), (4, .bx (.cn (.own 3) (.cn (.own 3) (.ce)))), (5, .int .i64)]
def Gr06_placed.ou58 : Outs := [(1, [(1, .bx (.st 26)), (2, .bx (.st 60)), (4, .bx (.cn (.own 3) (.cn (.own 3) (.ce))))])]
def Gr06_placed.T58 (k : Nat) (x : Gr06_placed.fr58.T) (κ : Kp (Tp Gr06_placed.rk) Gr06_placed.ou58) : Option (Tp Gr06_placed.rk) := Gr06_placed.l58 k x.1 x.2.1 x.2.2.1 x.2.2.2 κ.1
def Gr06_placed.fr8009 : Fr := [(1, .bx (.st 26)), (2, .bx (.st 60)), (4, .bx (.cn (.own 3) (.cn (.own 3) (.ce)))), (6, .int .i64), (7, .int .i64)]
def Gr06_placed.ou8009 : Outs := [(0, [(1, .bx (.st 26)), (2, .bx (.st 60)), (4, .bx (.cn (.own 3) (.cn (.own 3) (.ce)))), (6, .int .i64), (7, .int .i64)])]
def Gr06_placed.T8009 (x : Gr06_placed.fr8009.T) (κ : Kp (Tp Gr06_placed.rk) Gr06_placed.ou8009) : Option (Tp Gr06_placed.rk) := Gr06_placed.p8009 x.1 x.2.1 x.2.2.1 x.2.2.2.1 x.2.2.2.2 κ.1
def Gr06_placed.fr250 : Fr := [(1, .bx (.st 26)), (2, .bx (.st 60)), (4, .bx (.cn (.own 3) (.cn (.own 3) (.ce)))), (6, .int .i64), (7, .int .i64)]
def Gr06_placed.ou250 : Outs := [(3, [(1, .bx (.st 26)), (2, .bx (.st 60)), (4, .bx (.cn (.own 3) (.cn (.own 3) (.ce))))])]
def Gr06_placed.T250 (k : Nat) (x : Gr06_placed.fr250.T) (κ : Kp (Tp Gr06_placed.rk) Gr06_placed.ou250) : Option (Tp Gr06_placed.rk) := Gr06_placed.l250 k x.1 x.2.1 x.2.2.1 x.2.2.2.1 x.2.2.2.2 κ.1
def Gr06_placed.fr506 : Fr := [(1, .bx (.st 26)), (2, .bx (.st 60)), (4, .bx (.cn (.own 3) (.cn (.own 3) (.ce)))), (8, .int .i64)]
def Gr06_placed.ou506 : Outs := [(5, [(2, .bx (.st 60)), (4, .bx (.cn (.own 3) (.cn (.own 3) (.ce))))])]
def Gr06_placed.T506 (k : Nat) (x : Gr06_placed.fr506.T) (κ : Kp (Tp Gr06_placed.rk) Gr06_placed.ou506) : Option (Tp Gr06_placed.rk) := Gr06_placed.l506 k x.1 x.2.1 x.2.2.1 x.2.2.2 κ.1
def Gr06_placed.Λ0 : Cuts (Tp Gr06_placed.rk) := cutsOf []
def Gr06_placed.Λ1 : Cuts (Tp Gr06_placed.rk) := cutsOf [(58, cut Try.prog Gr06_placed.fr58 Gr06_placed.ou58 (Gr06_placed.T58 NN))]
def Gr06_placed.Λ2 : Cuts (Tp Gr06_placed.rk) := cutsOf [(8009, cut Try.prog Gr06_placed.fr8009 Gr06_placed.ou8009 (Gr06_placed.T8009)), (58, cut Try.prog Gr06_placed.fr58 Gr06_placed.ou58 (Gr06_placed.T58 NN))]
def Gr06_placed.Λ3 : Cuts (Tp Gr06_placed.rk) := cutsOf [(250, cut Try.prog Gr06_placed.fr250 Gr06_placed.ou250 (Gr06_placed.T250 NN)), (8009, cut Try.prog Gr06_placed.fr8009 Gr06_placed.ou8009 (Gr06_placed.T8009)), (58, cut Try.prog Gr06_placed.fr58 Gr06_placed.ou58 (Gr06_placed.T58 NN))]
def Gr06_placed.Λ : Cuts (Tp Gr06_placed.rk) := cutsOf [(506, cut Try.prog Gr06_placed.fr506 Gr06_placed.ou506 (Gr06_placed.T506 NN)), (250, cut Try.prog Gr06_placed.fr250 Gr06_placed.ou250 (Gr06_placed.T250 NN)), (8009, cut Try.prog Gr06_placed.fr8009 Gr06_placed.ou8009 (Gr06_placed.T8009)), (58, cut Try.prog Gr06_placed.fr58 Gr06_placed.ou58 (Gr06_placed.T58 NN))]
theorem Gr06_placed.c58 (A : Nat → Prop) (w0 : World) : CutOk Try.prog ⟨Try.f46.ntmps, A⟩ w0 (kRet Try.prog Try.f46.results.toList Gr06_placed.rk) (bodyOf Try.f46) 58 (cut Try.prog Gr06_placed.fr58 Gr06_placed.ou58 (Gr06_placed.T58 NN)) :=
  loop_ok Gr06_placed.hρ (Λ := Gr06_placed.Λ0) (cuts_nil) (by kernel_rfl) (D := 64) (b := loopOf Try.f46 58) (by kernel_rfl) (by kernel_rfl) NN (fun x κ => by kernel_rfl) (fun k x κ => by kernel_rfl)
theorem Gr06_placed.c8009 (A : Nat → Prop) (w0 : World) : CutOk Try.prog ⟨Try.f46.ntmps, A⟩ w0 (kRet Try.prog Try.f46.results.toList Gr06_placed.rk) (bodyOf Try.f46) 8009 (cut Try.prog Gr06_placed.fr8009 Gr06_placed.ou8009 (Gr06_placed.T8009)) :=
  cut_ok Gr06_placed.hρ (Λ := Gr06_placed.Λ1) (cuts_cons (Gr06_placed.c58 A w0) (cuts_nil)) (by kernel_rfl) (by kernel_rfl) (D := 64) (c := nodeOf Try.f46 8009) (by kernel_rfl) (by kernel_rfl) (fun x κ => by kernel_rfl)
theorem Gr06_placed.c250 (A : Nat → Prop) (w0 : World) : CutOk Try.prog ⟨Try.f46.ntmps, A⟩ w0 (kRet Try.prog Try.f46.results.toList Gr06_placed.rk) (bodyOf Try.f46) 250 (cut Try.prog Gr06_placed.fr250 Gr06_placed.ou250 (Gr06_placed.T250 NN)) :=
  loop_ok Gr06_placed.hρ (Λ := Gr06_placed.Λ2) (cuts_cons (Gr06_placed.c8009 A w0) (cuts_cons (Gr06_placed.c58 A w0) (cuts_nil))) (by kernel_rfl) (D := 64) (b := loopOf Try.f46 250) (by kernel_rfl) (by kernel_rfl) NN (fun x κ => by kernel_rfl) (fun k x κ => by kernel_rfl)
theorem Gr06_placed.c506 (A : Nat → Prop) (w0 : World) : CutOk Try.prog ⟨Try.f46.ntmps, A⟩ w0 (kRet Try.prog Try.f46.results.toList Gr06_placed.rk) (bodyOf Try.f46) 506 (cut Try.prog Gr06_placed.fr506 Gr06_placed.ou506 (Gr06_placed.T506 NN)) :=
  loop_ok Gr06_placed.hρ (Λ := Gr06_placed.Λ3) (cuts_cons (Gr06_placed.c250 A w0) (cuts_cons (Gr06_placed.c8009 A w0) (cuts_cons (Gr06_placed.c58 A w0) (cuts_nil)))) (by kernel_rfl) (D := 64) (b := loopOf Try.f46 506) (by kernel_rfl) (by kernel_rfl) NN (fun x κ => by kernel_rfl) (fun k x κ => by kernel_rfl)
theorem Gr06_placed.spec : Spec Try.prog 46 Gr06_placed.pk Gr06_placed.rk Gr06_placed.g :=
  spec_of_body (fn := Try.f46) (c := bodyOf Try.f46) (by kernel_rfl) (by kernel_rfl) (by kernel_rfl) (by kernel_rfl) (ρ := Gr06_placed.ρ) Gr06_placed.hρ (Λ := Gr06_placed.Λ) (fun A w0 => cuts_cons (Gr06_placed.c506 A w0) (cuts_cons (Gr06_placed.c250 A w0) (cuts_cons (Gr06_placed.c8009 A w0) (cuts_cons (Gr06_placed.c58 A w0) (cuts_nil))))) (fun x => by kernel_rfl)

/-! ### 21 bluebell/bluebellref06.After -/
def Gr06_After.p55295 (v1 : Int) (v2 : D) (v6 : Int) (v43 : Bool) (κ0 : Int → Option Int) : Option Int :=
  bif v43 then some (IntKind.i64.wrap (((v2.cell 1).int) + 1)) else bif (v6 == 24) then some (IntKind.i64.wrap (2 + ((v2.cell 2).int))) else κ0 v1
def Gr06_After.p215 (v1 : Int) (v2 : D) (v6 : Int) (v18 : Bool) (κ0 : Int → Option Int) : Option Int :=
  bif v18 then some (IntKind.i64.wrap (v1 - 1)) else bif (v6 == 13) then some (IntKind.i64.wrap (v1 - 2)) else bif (v6 == 15) then some (IntKind.i64.wrap (v1 - 3)) else bif (v6 == 18) then some ((v2.cell 1).int) else bif (v6 == 23) then Gr06_After.p55295 v1 v2 v6 (v6 == 23) (fun y1 => κ0 y1) else Gr06_After.p55295 v1 v2 v6 (v6 == 28) (fun y2 => κ0 y2)
def Gr06_After.p53 (v1 : Int) (v2 : D) (v6 : Int) (v7 : Bool) (κ0 : Int → Option Int) : Option Int :=
  bif v7 then some (IntKind.i64.wrap (v1 + 1)) else bif (v6 == 3) then Gr06_After.p215 v1 v2 v6 (v6 == 3) (fun y3 => κ0 y3) else bif (v6 == 6) then Gr06_After.p215 v1 v2 v6 (v6 == 6) (fun y4 => κ0 y4) else bif (v6 == 9) then Gr06_After.p215 v1 v2 v6 (v6 == 9) (fun y5 => κ0 y5) else bif (v6 == 16) then Gr06_After.p215 v1 v2 v6 (v6 == 16) (fun y6 => κ0 y6) else bif (v6 == 14) then Gr06_After.p215 v1 v2 v6 (v6 == 14) (fun y7 => κ0 y7) else bif (v6 == 21) then Gr06_After.p215 v1 v2 v6 (v6 == 21) (fun y8 => κ0 y8) else bif (v6 == 22) then Gr06_After.p215 v1 v2 v6 (v6 == 22) (fun y9 => κ0 y9) else bif (v6 == 29) then Gr06_After.p215 v1 v2 v6 (v6 == 29) (fun y10 => κ0 y10) else bif (v6 == 25) then Gr06_After.p215 v1 v2 v6 (v6 == 25) (fun y11 => κ0 y11) else Gr06_After.p215 v1 v2 v6 (v6 == 27) (fun y12 => κ0 y12)
def Gr06_After.f (a0 : D) (a1 : Int) : Option Int :=
  bif (((a0.cell 0).int) == 1) then Gr06_After.p53 a1 a0 ((a0.cell 0).int) (((a0.cell 0).int) == 1) (fun y13 => some y13) else bif (((a0.cell 0).int) == 2) then Gr06_After.p53 a1 a0 ((a0.cell 0).int) (((a0.cell 0).int) == 2) (fun y14 => some y14) else bif (((a0.cell 0).int) == 4) then Gr06_After.p53 a1 a0 ((a0.cell 0).int) (((a0.cell 0).int) == 4) (fun y15 => some y15) else bif (((a0.cell 0).int) == 5) then Gr06_After.p53 a1 a0 ((a0.cell 0).int) (((a0.cell 0).int) == 5) (fun y16 => some y16) else bif (((a0.cell 0).int) == 7) then Gr06_After.p53 a1 a0 ((a0.cell 0).int) (((a0.cell 0).int) == 7) (fun y17 => some y17) else bif (((a0.cell 0).int) == 8) then Gr06_After.p53 a1 a0 ((a0.cell 0).int) (((a0.cell 0).int) == 8) (fun y18 => some y18) else bif (((a0.cell 0).int) == 10) then Gr06_After.p53 a1 a0 ((a0.cell 0).int) (((a0.cell 0).int) == 10) (fun y19 => some y19) else Gr06_After.p53 a1 a0 ((a0.cell 0).int) (((a0.cell 0).int) == 11) (fun y20 => some y20)
def Gr06_After.pk : List FK := [.st 35, .int .i64]
def Gr06_After.rk : List FK := [.int .i64]
def Gr06_After.g : Tp Gr06_After.pk → Option (Tp Gr06_After.rk) := fun x => Gr06_After.f x.1 x.2
def Gr06_After.ρ : List (Entry (Tp Gr06_After.rk)) := []
theorem Gr06_After.hρ : ∀ e ∈ Gr06_After.ρ, EntryOk Try.prog e :=
  ents_nil
def Gr06_After.fr55295 : Fr := [(1, .int .i64), (2, .bx (.st 35)), (6, .int .i64), (43, .bool)]
def Gr06_After.ou55295 : Outs := [(0, [(1, .int .i64)])]
def Gr06_After.T55295 (x : Gr06_After.fr55295.T) (κ : Kp (Tp Gr06_After.rk) Gr06_After.ou55295) : Option (Tp Gr06_After.rk) := Gr06_After.p55295 x.1 x.2.1 x.2.2.1 x.2.2.2 κ.1
def Gr06_After.fr215 : Fr := [(1, .int .i64), (2, .bx (.st 35)), (6, .int .i64), (18, .bool)]
def Gr06_After.ou215 : Outs := [(0, [(1, .int .i64)])]
def Gr06_After.T215 (x : Gr06_After.fr215.T) (κ : Kp (Tp Gr06_After.rk) Gr06_After.ou215) : Option (Tp Gr06_After.rk) := Gr06_After.p215 x.1 x.2.1 x.2.2.1 x.2.2.2 κ.1
def Gr06_After.fr53 : Fr := [(1, .int .i64), (2, .bx (.st 35)), (6, .int .i64), (7, .bool)]
def Gr06_After.ou53 : Outs := [(0, [(1, .int .i64)])]
def Gr06_After.T53 (x : Gr06_After.fr53.T) (κ : Kp (Tp Gr06_After.rk) Gr06_After.ou53) : Option (Tp Gr06_After.rk) := Gr06_After.p53 x.1 x.2.1 x.2.2.1 x.2.2.2 κ.1
def Gr06_After.Λ0 : Cuts (Tp Gr06_After.rk) := cutsOf []
def Gr06_After.Λ1 : Cuts (Tp Gr06_After.rk) := cutsOf [(55295, cut Try.prog Gr06_After.fr55295 Gr06_After.ou55295 (Gr06_After.T55295))]
def Gr06_After.Λ2 : Cuts (Tp Gr06_After.rk) := cutsOf [(215, cut Try.prog Gr06_After.fr215 Gr06_After.ou215 (Gr06_After.T215)), (55295, cut Try.prog Gr06_After.fr55295 Gr06_After.ou55295 (Gr06_After.T55295))]
def Gr06_After.Λ : Cuts (Tp Gr06_After.rk) := cutsOf [(53, cut Try.prog Gr06_After.fr53 Gr06_After.ou53 (Gr06_After.T53)), (215, cut Try.prog Gr06_After.fr215 Gr06_After.ou215 (Gr06_After.T215)), (55295, cut Try.prog Gr06_After.fr55295 Gr06_After.ou55295 (Gr06_After.T55295))]
theorem Gr06_After.c55295 (A : Nat → Prop) (w0 : World) : CutOk Try.prog ⟨Try.f21.ntmps, A⟩ w0 (kRet Try.prog Try.f21.results.toList Gr06_After.rk) (bodyOf Try.f21) 55295 (cut Try.prog Gr06_After.fr55295 Gr06_After.ou55295 (Gr06_After.T55295)) :=
  cut_ok Gr06_After.hρ (Λ := Gr06_After.Λ0) (cuts_nil) (by kernel_rfl) (by kernel_rfl) (D := 64) (c := nodeOf Try.f21 55295) (by kernel_rfl) (by kernel_rfl) (fun x κ => by kernel_rfl)
theorem Gr06_After.c215 (A : Nat → Prop) (w0 : World) : CutOk Try.prog ⟨Try.f21.ntmps, A⟩ w0 (kRet Try.prog Try.f21.results.toList Gr06_After.rk) (bodyOf Try.f21) 215 (cut Try.prog Gr06_After.fr215 Gr06_After.ou215 (Gr06_After.T215)) :=
  cut_ok Gr06_After.hρ (Λ := Gr06_After.Λ1) (cuts_cons (Gr06_After.c55295 A w0) (cuts_nil)) (by kernel_rfl) (by kernel_rfl) (D := 64) (c := nodeOf Try.f21 215) (by kernel_rfl) (by kernel_rfl) (fun x κ => by kernel_rfl)
theorem Gr06_After.c53 (A : Nat → Prop) (w0 : World) : CutOk Try.prog ⟨Try.f21.ntmps, A⟩ w0 (kRet Try.prog Try.f21.results.toList Gr06_After.rk) (bodyOf Try.f21) 53 (cut Try.prog Gr06_After.fr53 Gr06_After.ou53 (Gr06_After.T53)) :=
  cut_ok Gr06_After.hρ (Λ := Gr06_After.Λ2) (cuts_cons (Gr06_After.c215 A w0) (cuts_cons (Gr06_After.c55295 A w0) (cuts_nil))) (by kernel_rfl) (by kernel_rfl) (D := 64) (c := nodeOf Try.f21 53) (by kernel_rfl) (by kernel_rfl) (fun x κ => by kernel_rfl)
theorem Gr06_After.spec : Spec Try.prog 21 Gr06_After.pk Gr06_After.rk Gr06_After.g :=
  spec_of_body (fn := Try.f21) (c := bodyOf Try.f21) (by kernel_rfl) (by kernel_rfl) (by kernel_rfl) (by kernel_rfl) (ρ := Gr06_After.ρ) Gr06_After.hρ (Λ := Gr06_After.Λ) (fun A w0 => cuts_cons (Gr06_After.c53 A w0) (cuts_cons (Gr06_After.c215 A w0) (cuts_cons (Gr06_After.c55295 A w0) (cuts_nil)))) (fun x => by kernel_rfl)

/-! ### 73 bluebell/bluebellref06.needs -/
def Gr06_needs.p215 (v4 : Int) (v16 : Bool) (κ0 : Unit → Option Int) : Option Int :=
  bif v16 then some 2 else bif (v4 == 15) then some 3 else κ0 ()
def Gr06_needs.p53 (v4 : Int) (v5 : Bool) (κ0 : Unit → Option Int) : Option Int :=
  bif v5 then some 1 else bif (v4 == 16) then Gr06_needs.p215 v4 (v4 == 16) (fun y1 => κ0 ()) else bif (v4 == 14) then Gr06_needs.p215 v4 (v4 == 14) (fun y2 => κ0 ()) else Gr06_needs.p215 v4 (v4 == 13) (fun y3 => κ0 ())
def Gr06_needs.f (a0 : D) : Option Int :=
  bif (((a0.cell 0).int) == 3) then Gr06_needs.p53 ((a0.cell 0).int) (((a0.cell 0).int) == 3) (fun y4 => some 0) else bif (((a0.cell 0).int) == 6) then Gr06_needs.p53 ((a0.cell 0).int) (((a0.cell 0).int) == 6) (fun y5 => some 0) else bif (((a0.cell 0).int) == 9) then Gr06_needs.p53 ((a0.cell 0).int) (((a0.cell 0).int) == 9) (fun y6 => some 0) else bif (((a0.cell 0).int) == 12) then Gr06_needs.p53 ((a0.cell 0).int) (((a0.cell 0).int) == 12) (fun y7 => some 0) else bif (((a0.cell 0).int) == 17) then Gr06_needs.p53 ((a0.cell 0).int) (((a0.cell 0).int) == 17) (fun y8 => some 0) else bif (((a0.cell 0).int) == 21) then Gr06_needs.p53 ((a0.cell 0).int) (((a0.cell 0).int) == 21) (fun y9 => some 0) else bif (((a0.cell 0).int) == 22) then Gr06_needs.p53 ((a0.cell 0).int) (((a0.cell 0).int) == 22) (fun y10 => some 0) else bif (((a0.cell 0).int) == 29) then Gr06_needs.p53 ((a0.cell 0).int) (((a0.cell 0).int) == 29) (fun y11 => some 0) else bif (((a0.cell 0).int) == 25) then Gr06_needs.p53 ((a0.cell 0).int) (((a0.cell 0).int) == 25) (fun y12 => some 0) else Gr06_needs.p53 ((a0.cell 0).int) (((a0.cell 0).int) == 27) (fun y13 => some 0)
def Gr06_needs.pk : List FK := [.st 35]
def Gr06_needs.rk : List FK := [.int .i64]
def Gr06_needs.g : Tp Gr06_needs.pk → Option (Tp Gr06_needs.rk) := fun x => Gr06_needs.f x
def Gr06_needs.ρ : List (Entry (Tp Gr06_needs.rk)) := []
theorem Gr06_needs.hρ : ∀ e ∈ Gr06_needs.ρ, EntryOk Try.prog e :=
  ents_nil
def Gr06_needs.fr215 : Fr := [(4, .int .i64), (16, .bool)]
def Gr06_needs.ou215 : Outs := [(0, [])]
def Gr06_needs.T215 (x : Gr06_needs.fr215.T) (κ : Kp (Tp Gr06_needs.rk) Gr06_needs.ou215) : Option (Tp Gr06_needs.rk) := Gr06_needs.p215 x.1 x.2 κ.1
def Gr06_needs.fr53 : Fr := [(4, .int .i64), (5, .bool)]
def Gr06_needs.ou53 : Outs := [(0, [])]
def Gr06_needs.T53 (x : Gr06_needs.fr53.T) (κ : Kp (Tp Gr06_needs.rk) Gr06_needs.ou53) : Option (Tp Gr06_needs.rk) := Gr06_needs.p53 x.1 x.2 κ.1
def Gr06_needs.Λ0 : Cuts (Tp Gr06_needs.rk) := cutsOf []
def Gr06_needs.Λ1 : Cuts (Tp Gr06_needs.rk) := cutsOf [(215, cut Try.prog Gr06_needs.fr215 Gr06_needs.ou215 (Gr06_needs.T215))]
def Gr06_needs.Λ : Cuts (Tp Gr06_needs.rk) := cutsOf [(53, cut Try.prog Gr06_needs.fr53 Gr06_needs.ou53 (Gr06_needs.T53)), (215, cut Try.prog Gr06_needs.fr215 Gr06_needs.ou215 (Gr06_needs.T215))]
theorem Gr06_needs.c215 (A : Nat → Prop) (w0 : World) : CutOk Try.prog ⟨Try.f73.ntmps, A⟩ w0 (kRet Try.prog Try.f73.results.toList Gr06_needs.rk) (bodyOf Try.f73) 215 (cut Try.prog Gr06_needs.fr215 Gr06_needs.ou215 (Gr06_needs.T215)) :=
  cut_ok Gr06_needs.hρ (Λ := Gr06_needs.Λ0) (cuts_nil) (by kernel_rfl) (by kernel_rfl) (D := 64) (c := nodeOf Try.f73 215) (by kernel_rfl) (by kernel_rfl) (fun x κ => by kernel_rfl)
theorem Gr06_needs.c53 (A : Nat → Prop) (w0 : World) : CutOk Try.prog ⟨Try.f73.ntmps, A⟩ w0 (kRet Try.prog Try.f73.results.toList Gr06_needs.rk) (bodyOf Try.f73) 53 (cut Try.prog Gr06_needs.fr53 Gr06_needs.ou53 (Gr06_needs.T53)) :=
  cut_ok Gr06_needs.hρ (Λ := Gr06_needs.Λ1) (cuts_cons (Gr06_needs.c215 A w0) (cuts_nil)) (by kernel_rfl) (by kernel_rfl) (D := 64) (c := nodeOf Try.f73 53) (by kernel_rfl) (by kernel_rfl) (fun x κ => by kernel_rfl)
theorem Gr06_needs.spec : Spec Try.prog 73 Gr06_needs.pk Gr06_needs.rk Gr06_needs.g :=
  spec_of_body (fn := Try.f73) (c := bodyOf Try.f73) (by kernel_rfl) (by kernel_rfl) (by kernel_rfl) (by kernel_rfl) (ρ := Gr06_needs.ρ) Gr06_needs.hρ (Λ := Gr06_needs.Λ) (fun A w0 => cuts_cons (Gr06_needs.c53 A w0) (cuts_cons (Gr06_needs.c215 A w0) (cuts_nil))) (fun x => by kernel_rfl)

/-! ### 74 bluebell/bluebellref06.local -/
def Gr06_local.p53 (v1 : Int) (v2 : D) (v6 : Int) (v7 : Bool) (κ0 : Unit → Option Bool) : Option Bool :=
  bif v7 then (Gr06_in.f ((v2.cell 1).int) 2 (IntKind.i64.wrap (v1 - 1))).bind fun r1 => some r1 else bif (v6 == 4) then some (decide (((v2.cell 1).int) ≥ 2)) else bif (v6 == 23) then (Gr06_in.f ((v2.cell 1).int) 2 (IntKind.i64.wrap (v1 - 3))).bind fun r2 => some r2 else bif (v6 == 18) then some (decide (((v2.cell 1).int) ≤ (IntKind.i64.wrap ((IntKind.i64.wrap (v1 + 2000)) + 2)))) else κ0 ()
def Gr06_local.f (a0 : D) (a1 : Int) : Option Bool :=
  bif (((a0.cell 0).int) == 2) then Gr06_local.p53 a1 a0 ((a0.cell 0).int) (((a0.cell 0).int) == 2) (fun y3 => some true) else Gr06_local.p53 a1 a0 ((a0.cell 0).int) (((a0.cell 0).int) == 3) (fun y4 => some true)
def Gr06_local.pk : List FK := [.st 35, .int .i64]
def Gr06_local.rk : List FK := [.bool]
def Gr06_local.g : Tp Gr06_local.pk → Option (Tp Gr06_local.rk) := fun x => Gr06_local.f x.1 x.2
def Gr06_local.ρ : List (Entry (Tp Gr06_local.rk)) := [entry _ Try.prog 71 Gr06_in.pk Gr06_in.rk Gr06_in.g]
theorem Gr06_local.hρ : ∀ e ∈ Gr06_local.ρ, EntryOk Try.prog e :=
  ents_cons (ent (fn := Try.f71) Gr06_in.spec (by kernel_rfl) (by kernel_rfl) (by kernel_rfl) (by kernel_rfl)) (ents_nil)
def Gr06_local.fr53 : Fr := [(1, .int .i64), (2, .bx (.st 35)), (6, .int .i64), (7, .bool)]
def Gr06_local.ou53 : Outs := [(0, [])]
def Gr06_local.T53 (x : Gr06_local.fr53.T) (κ : Kp (Tp Gr06_local.rk) Gr06_local.ou53) : Option (Tp Gr06_local.rk) := Gr06_local.p53 x.1 x.2.1 x.2.2.1 x.2.2.2 κ.1
def Gr06_local.Λ0 : Cuts (Tp Gr06_local.rk) := cutsOf []
def Gr06_local.Λ : Cuts (Tp Gr06_local.rk) := cutsOf [(53, cut Try.prog Gr06_local.fr53 Gr06_local.ou53 (Gr06_local.T53))]
theorem Gr06_local.c53 (A : Nat → Prop) (w0 : World) : CutOk Try.prog ⟨Try.f74.ntmps, A⟩ w0 (kRet Try.prog Try.f74.results.toList Gr06_local.rk) (bodyOf Try.f74) 53 (cut Try.prog Gr06_local.fr53 Gr06_local.ou53 (Gr06_local.T53)) :=
  cut_ok Gr06_local.hρ (Λ := Gr06_local.Λ0) (cuts_nil) (by kernel_rfl) (by kernel_rfl) (D := 64) (c := nodeOf Try.f74 53) (by kernel_rfl) (by kernel_rfl) (fun x κ => by kernel_rfl)
theorem Gr06_local.spec : Spec Try.prog 74 Gr06_local.pk Gr06_local.rk Gr06_local.g :=
  spec_of_body (fn := Try.f74) (c := bodyOf Try.f74) (by kernel_rfl) (by kernel_rfl) (by kernel_rfl) (by kernel_rfl) (ρ := Gr06_local.ρ) Gr06_local.hρ (Λ := Gr06_local.Λ) (fun A w0 => cuts_cons (Gr06_local.c53 A w0) (cuts_nil)) (fun x => by kernel_rfl)

/-! ### 75 bluebell/bluebellref06.lands -/
def Gr06_lands.l12 : Nat → (List D) → Int → ((List D × Int) → Option Bool) → Option Bool
  | 0, _, _, _ => none
  | k + 1, v0, v1, κ1 =>
    gd ((!(decide (v1 < (v0.length : Int)))) || (inB v1 v0.length)) (bif ((decide (v1 < (v0.length : Int))) && ((((rd v0 v1.toNat).cell 0).int) == 19)) then Gr06_lands.l12 k v0 (IntKind.i64.wrap (v1 + 1)) κ1 else κ1 (v0, v1))
def Gr06_lands.f (a0 : List D) (a1 : Int) : Option Bool :=
  Gr06_lands.l12 NN a0 a1 (fun y1 => gd ((!(decide (y1.2 < (y1.1.length : Int)))) || (inB y1.2 y1.1.length)) (some ((decide (y1.2 < (y1.1.length : Int))) && ((((rd y1.1 y1.2.toNat).cell 0).int) == 28))))
def Gr06_lands.pk : List FK := [.sl 35, .int .i64]
def Gr06_lands.rk : List FK := [.bool]
def Gr06_lands.g : Tp Gr06_lands.pk → Option (Tp Gr06_lands.rk) := fun x => Gr06_lands.f x.1 x.2
def Gr06_lands.ρ : List (Entry (Tp Gr06_lands.rk)) := []
theorem Gr06_lands.hρ : ∀ e ∈ Gr06_lands.ρ, EntryOk Try.prog e :=
  ents_nil
def Gr06_lands.fr12 : Fr := [(0, .sl 35), (1, .int .i64)]
def Gr06_lands.ou12 : Outs := [(1, [(0, .sl 35), (1, .int .i64)])]
def Gr06_lands.T12 (k : Nat) (x : Gr06_lands.fr12.T) (κ : Kp (Tp Gr06_lands.rk) Gr06_lands.ou12) : Option (Tp Gr06_lands.rk) := Gr06_lands.l12 k x.1 x.2 κ.1
def Gr06_lands.Λ0 : Cuts (Tp Gr06_lands.rk) := cutsOf []
def Gr06_lands.Λ : Cuts (Tp Gr06_lands.rk) := cutsOf [(12, cut Try.prog Gr06_lands.fr12 Gr06_lands.ou12 (Gr06_lands.T12 NN))]
theorem Gr06_lands.c12 (A : Nat → Prop) (w0 : World) : CutOk Try.prog ⟨Try.f75.ntmps, A⟩ w0 (kRet Try.prog Try.f75.results.toList Gr06_lands.rk) (bodyOf Try.f75) 12 (cut Try.prog Gr06_lands.fr12 Gr06_lands.ou12 (Gr06_lands.T12 NN)) :=
  loop_ok Gr06_lands.hρ (Λ := Gr06_lands.Λ0) (cuts_nil) (by kernel_rfl) (D := 64) (b := loopOf Try.f75 12) (by kernel_rfl) (by kernel_rfl) NN (fun x κ => by kernel_rfl) (fun k x κ => by kernel_rfl)
theorem Gr06_lands.spec : Spec Try.prog 75 Gr06_lands.pk Gr06_lands.rk Gr06_lands.g :=
  spec_of_body (fn := Try.f75) (c := bodyOf Try.f75) (by kernel_rfl) (by kernel_rfl) (by kernel_rfl) (by kernel_rfl) (ρ := Gr06_lands.ρ) Gr06_lands.hρ (Λ := Gr06_lands.Λ) (fun A w0 => cuts_cons (Gr06_lands.c12 A w0) (cuts_nil)) (fun x => by kernel_rfl)

/-! ### 47 bluebell/bluebellref06.deep -/
def Gr06_deep.l58 : Nat → D → D → Int → Bool → Int → (Unit → Option Bool) → Option Bool
  | 0, _, _, _, _, _, _ => none
  | k + 1, v2, v3, v5, v6, v7, κ1 =>
    bif decide (v7 < (((v2.cell 2).list).length : Int)) then gd (inB v7 ((v2.cell 2).list).length) (bif ((((rd ((v2.cell 2).list) v7.toNat).cell 0).int) == 24) then Gr06_deep.l58 k v2 v3 (IntKind.i64.wrap (2 + (((rd ((v2.cell 2).list) v7.toNat).cell 2).int))) true (IntKind.i64.wrap (v7 + 1)) κ1 else (Gr06_After.f (rd ((v2.cell 2).list) v7.toNat) v5).bind fun r1 => gd ((!((((rd ((v2.cell 2).list) v7.toNat).cell 0).int) == 18)) || (inB (IntKind.i64.wrap (v7 - 1)) ((v2.cell 2).list).length)) ((Gr06_needs.f (rd ((v2.cell 2).list) v7.toNat)).bind fun r2 => (bif (!(decide ((IntKind.i64.wrap (v5 - r2)) < 2))) then Gr06_in.f r1 2 4000 else some false).bind fun r3 => (bif ((!((decide ((IntKind.i64.wrap (v5 - r2)) < 2)) || (!r3))) && (!(((((rd ((v2.cell 2).list) v7.toNat).cell 0).int) == 18) && ((((rd ((v2.cell 2).list) (IntKind.i64.wrap (v7 - 1)).toNat).cell 0).int) == 19)))) then Gr06_local.f (rd ((v2.cell 2).list) v7.toNat) v5 else some false).bind fun r4 => bif (((decide ((IntKind.i64.wrap (v5 - r2)) < 2)) || (!r3)) || ((!(((((rd ((v2.cell 2).list) v7.toNat).cell 0).int) == 18) && ((((rd ((v2.cell 2).list) (IntKind.i64.wrap (v7 - 1)).toNat).cell 0).int) == 19))) && (!r4))) then some false else bif (((((rd ((v2.cell 2).list) v7.toNat).cell 0).int) == 28) && v6) then some false else (Gr06_Label.f (rd ((v2.cell 2).list) v7.toNat)).bind fun r5 => gd ((!(decide (r5 > 0))) || (inB r5 ((v3.cell 0).list).length)) ((bif (decide (r5 > 0)) then Gr06_lands.f ((v2.cell 2).list) ((rd ((v3.cell 0).list) r5.toNat).int) else some false).bind fun r6 => bif ((decide (r5 > 0)) && (!(r6 == ((((rd ((v2.cell 2).list) v7.toNat).cell 0).int) == 27)))) then some false else bif ((((rd ((v2.cell 2).list) v7.toNat).cell 0).int) != 19) then (Gr06_GoesOn.f (rd ((v2.cell 2).list) v7.toNat)).bind fun r7 => Gr06_deep.l58 k v2 v3 r1 r7 (IntKind.i64.wrap (v7 + 1)) κ1 else Gr06_deep.l58 k v2 v3 r1 v6 (IntKind.i64.wrap (v7 + 1)) κ1))) else κ1 ()
def Gr06_deep.f (a0 : D) (a1 : D) : Option Bool :=
  Gr06_deep.l58 NN a0 a1 0 false 0 (fun y8 => some true)
def Gr06_deep.pk : List FK := [.st 26, .st 60]
def Gr06_deep.rk : List FK := [.bool]
def Gr06_deep.g : Tp Gr06_deep.pk → Option (Tp Gr06_deep.rk) := fun x => Gr06_deep.f x.1 x.2
def Gr06_deep.ρ : List (Entry (Tp Gr06_deep.rk)) := [entry _ Try.prog 21 Gr06_After.pk Gr06_After.rk Gr06_After.g, entry _ Try.prog 73 Gr06_needs.pk Gr06_needs.rk Gr06_needs.g, entry _ Try.prog 71 Gr06_in.pk Gr06_in.rk Gr06_in.g, entry _ Try.prog 74 Gr06_local.pk Gr06_local.rk Gr06_local.g, entry _ Try.prog 15 Gr06_Label.pk Gr06_Label.rk Gr06_Label.g, entry _ Try.prog 75 Gr06_lands.pk Gr06_lands.rk Gr06_lands.g, entry _ Try.prog 72 Gr06_GoesOn.pk Gr06_GoesOn.rk Gr06_GoesOn.g]
theorem Gr06_deep.hρ : ∀ e ∈ Gr06_deep.ρ, EntryOk Try.prog e :=
  ents_cons (ent (fn := Try.f21) Gr06_After.spec (by kernel_rfl) (by kernel_rfl) (by kernel_rfl) (by kernel_rfl)) (ents_cons (ent (fn := Try.f73) Gr06_needs.spec (by kernel_rfl) (by kernel_rfl) (by kernel_rfl) (by kernel_rfl)) (ents_cons (ent (fn := Try.f71) Gr06_in.spec (by kernel_rfl) (by kernel_rfl) (by kernel_rfl) (by kernel_rfl)) (ents_cons (ent (fn := Try.f74) Gr06_local.spec (by kernel_rfl) (by kernel_rfl) (by kernel_rfl) (by kernel_rfl)) (ents_cons (ent (fn := Try.f15) Gr06_Label.spec (by kernel_rfl) (by kernel_rfl) (by kernel_rfl) (by kernel_rfl)) (ents_cons (ent (fn := Try.f75) Gr06_lands.spec (by kernel_rfl) (by kernel_rfl) (by kernel_rfl) (by kernel_rfl)) (ents_cons (ent (fn := Try.f72) Gr06_GoesOn.spec (by kernel_rfl) (by kernel_rfl) (by kernel_rfl) (by kernel_rfl)) (ents_nil)))))))
def Gr06_deep.fr58 : Fr := [(2, .bx (.st 26)), (3, .bx (.st 60)), (5, .int .i64), (6, .bool), (7, .int .i64)]
def Gr06_deep.ou58 : Outs := [(1, [])]
def Gr06_deep.T58 (k : Nat) (x : Gr06_deep.fr58.T) (κ : Kp (Tp Gr06_deep.rk) Gr06_deep.ou58) : Option (Tp Gr06_deep.rk) := Gr06_deep.l58 k x.1 x.2.1 x.2.2.1 x.2.2.2.1 x.2.2.2.2 κ.1
def Gr06_deep.Λ0 : Cuts (Tp Gr06_deep.rk) := cutsOf []
def Gr06_deep.Λ : Cuts (Tp Gr06_deep.rk) := cutsOf [(58, cut Try.prog Gr06_deep.fr58 Gr06_deep.ou58 (Gr06_deep.T58 NN))]
theorem Gr06_deep.c58 (A : Nat → Prop) (w0 : World) : CutOk Try.prog ⟨Try.f47.ntmps, A⟩ w0 (kRet Try.prog Try.f47.results.toList Gr06_deep.rk) (bodyOf Try.f47) 58 (cut Try.prog Gr06_deep.fr58 Gr06_deep.ou58 (Gr06_deep.T58 NN)) :=
  loop_ok Gr06_deep.hρ (Λ := Gr06_deep.Λ0) (cuts_nil) (by kernel_rfl) (D := 64) (b := loopOf Try.f47 58) (by kernel_rfl) (by kernel_rfl) NN (fun x κ => by kernel_rfl) (fun k x κ => by kernel_rfl)
theorem Gr06_deep.spec : Spec Try.prog 47 Gr06_deep.pk Gr06_deep.rk Gr06_deep.g :=
  spec_of_body (fn := Try.f47) (c := bodyOf Try.f47) (by kernel_rfl) (by kernel_rfl) (by kernel_rfl) (by kernel_rfl) (ρ := Gr06_deep.ρ) Gr06_deep.hρ (Λ := Gr06_deep.Λ) (fun A w0 => cuts_cons (Gr06_deep.c58 A w0) (cuts_nil)) (fun x => by kernel_rfl)

/-! ### 22 bluebell/bluebellref06.Check -/
def Gr06_Check.l122 : Nat → D → Int → (D → Option Int) → Option Int
  | 0, _, _, _ => none
  | k + 1, v1, v3, κ1 =>
    bif decide (v3 < (((v1.cell 2).list).length : Int)) then gd (inB v3 ((v1.cell 2).list).length) ((Gr06_numbers.f v1 (rd ((v1.cell 2).list) v3.toNat)).bind fun r3 => bif (!r3) then some 60 else Gr06_Check.l122 k v1 (IntKind.i64.wrap (v3 + 1)) κ1) else κ1 v1
def Gr06_Check.f (a0 : D) : Option Int :=
  (Gr06_tooMuch.f a0).bind fun r1 => bif r1 then some 2 else (bif (!((decide (((a0.cell 4).int) < 0)) || (decide (((a0.cell 5).int) < 0)))) then Gr06_areas.f a0 else some false).bind fun r2 => bif (((decide (((a0.cell 4).int) < 0)) || (decide (((a0.cell 5).int) < 0))) || (!r2)) then some 60 else Gr06_Check.l122 NN a0 0 (fun y4 => (Gr06_order.f y4).bind fun r5 => bif (!r5) then some 60 else (Gr06_placed.f y4).bind fun r6 => bif (!r6.2) then some 60 else (Gr06_deep.f y4 r6.1).bind fun r7 => bif (!r7) then some 61 else some 0)
def Gr06_Check.pk : List FK := [.st 26]
def Gr06_Check.rk : List FK := [.int .i64]
def Gr06_Check.g : Tp Gr06_Check.pk → Option (Tp Gr06_Check.rk) := fun x => Gr06_Check.f x
def Gr06_Check.ρ : List (Entry (Tp Gr06_Check.rk)) := [entry _ Try.prog 42 Gr06_tooMuch.pk Gr06_tooMuch.rk Gr06_tooMuch.g, entry _ Try.prog 43 Gr06_areas.pk Gr06_areas.rk Gr06_areas.g, entry _ Try.prog 44 Gr06_numbers.pk Gr06_numbers.rk Gr06_numbers.g, entry _ Try.prog 45 Gr06_order.pk Gr06_order.rk Gr06_order.g, entry _ Try.prog 46 Gr06_placed.pk Gr06_placed.rk Gr06_placed.g, entry _ Try.prog 47 Gr06_deep.pk Gr06_deep.rk Gr06_deep.g]
theorem Gr06_Check.hρ : ∀ e ∈ Gr06_Check.ρ, EntryOk Try.prog e :=
  ents_cons (ent (fn := Try.f42) Gr06_tooMuch.spec (by kernel_rfl) (by kernel_rfl) (by kernel_rfl) (by kernel_rfl)) (ents_cons (ent (fn := Try.f43) Gr06_areas.spec (by kernel_rfl) (by kernel_rfl) (by kernel_rfl) (by kernel_rfl)) (ents_cons (ent (fn := Try.f44) Gr06_numbers.spec (by kernel_rfl) (by kernel_rfl) (by kernel_rfl) (by kernel_rfl)) (ents_cons (ent (fn := Try.f45) Gr06_order.spec (by kernel_rfl) (by kernel_rfl) (by kernel_rfl) (by kernel_rfl)) (ents_cons (ent (fn := Try.f46) Gr06_placed.spec (by kernel_rfl) (by kernel_rfl) (by kernel_rfl) (by kernel_rfl)) (ents_cons (ent (fn := Try.f47) Gr06_deep.spec (by kernel_rfl) (by kernel_rfl) (by kernel_rfl) (by kernel_rfl)) (ents_nil))))))
def Gr06_Check.fr122 : Fr := [(1, .bx (.st 26)), (3, .int .i64)]
def Gr06_Check.ou122 : Outs := [(1, [(1, .bx (.st 26))])]
def Gr06_Check.T122 (k : Nat) (x : Gr06_Check.fr122.T) (κ : Kp (Tp Gr06_Check.rk) Gr06_Check.ou122) : Option (Tp Gr06_Check.rk) := Gr06_Check.l122 k x.1 x.2 κ.1
def Gr06_Check.Λ0 : Cuts (Tp Gr06_Check.rk) := cutsOf []
def Gr06_Check.Λ : Cuts (Tp Gr06_Check.rk) := cutsOf [(122, cut Try.prog Gr06_Check.fr122 Gr06_Check.ou122 (Gr06_Check.T122 NN))]
theorem Gr06_Check.c122 (A : Nat → Prop) (w0 : World) : CutOk Try.prog ⟨Try.f22.ntmps, A⟩ w0 (kRet Try.prog Try.f22.results.toList Gr06_Check.rk) (bodyOf Try.f22) 122 (cut Try.prog Gr06_Check.fr122 Gr06_Check.ou122 (Gr06_Check.T122 NN)) :=
  loop_ok Gr06_Check.hρ (Λ := Gr06_Check.Λ0) (cuts_nil) (by kernel_rfl) (D := 64) (b := loopOf Try.f22 122) (by kernel_rfl) (by kernel_rfl) NN (fun x κ => by kernel_rfl) (fun k x κ => by kernel_rfl)
theorem Gr06_Check.spec : Spec Try.prog 22 Gr06_Check.pk Gr06_Check.rk Gr06_Check.g :=
  spec_of_body (fn := Try.f22) (c := bodyOf Try.f22) (by kernel_rfl) (by kernel_rfl) (by kernel_rfl) (by kernel_rfl) (ρ := Gr06_Check.ρ) Gr06_Check.hρ (Λ := Gr06_Check.Λ) (fun A w0 => cuts_cons (Gr06_Check.c122 A w0) (cuts_nil)) (fun x => by kernel_rfl)

/-! ### 25 bluebell/bluebellref06.Depths -/
def Gr06_Depths.p16201 (v1 : D) (v5 : List D) (v6 : Int) (v7 : Int) (κ0 : (D × List D × Int × Int) → Option (List D × Int)) : Option (List D × Int) :=
  gd (Nat.ble (v5.length + ([.i v6] : List D).length) lim) (gd (inB v7 ((v1.cell 2).list).length) ((Gr06_After.f (rd ((v1.cell 2).list) v7.toNat) v6).bind fun r2 => κ0 (v1, (v5 ++ ([.i v6] : List D)), r2, v7)))
def Gr06_Depths.l506 : Nat → D → (List D) → Int → Int → (List D → Option (List D × Int)) → Option (List D × Int)
  | 0, _, _, _, _, _ => none
  | k + 1, v1, v5, v6, v7, κ1 =>
    bif decide (v7 < (((v1.cell 2).list).length : Int)) then gd (inB v7 ((v1.cell 2).list).length) (bif ((((rd ((v1.cell 2).list) v7.toNat).cell 0).int) == 24) then Gr06_Depths.p16201 v1 v5 0 v7 (fun y3 => Gr06_Depths.l506 k y3.1 y3.2.1 y3.2.2.1 (IntKind.i64.wrap (y3.2.2.2 + 1)) κ1) else Gr06_Depths.p16201 v1 v5 v6 v7 (fun y4 => Gr06_Depths.l506 k y4.1 y4.2.1 y4.2.2.1 (IntKind.i64.wrap (y4.2.2.2 + 1)) κ1)) else κ1 v5
def Gr06_Depths.f (a0 : D) : Option (List D × Int) :=
  (Gr06_Check.f a0).bind fun r1 => bif (r1 != 0) then some ([], r1) else Gr06_Depths.l506 NN a0 [] 0 0 (fun y5 => some (y5, 0))
def Gr06_Depths.pk : List FK := [.st 26]
def Gr06_Depths.rk : List FK := [.own 3, .int .i64]
def Gr06_Depths.g : Tp Gr06_Depths.pk → Option (Tp Gr06_Depths.rk) := fun x => Gr06_Depths.f x
def Gr06_Depths.ρ : List (Entry (Tp Gr06_Depths.rk)) := [entry _ Try.prog 22 Gr06_Check.pk Gr06_Check.rk Gr06_Check.g, entry _ Try.prog 21 Gr06_After.pk Gr06_After.rk Gr06_After.g]
theorem Gr06_Depths.hρ : ∀ e ∈ Gr06_Depths.ρ, EntryOk Try.prog e :=
  ents_cons (ent (fn := Try.f22) Gr06_Check.spec (by kernel_rfl) (by kernel_rfl) (by kernel_rfl) (by kernel_rfl)) (ents_cons (ent (fn := Try.f21) Gr06_After.spec (by kernel_rfl) (by kernel_rfl) (by kernel_rfl) (by kernel_rfl)) (ents_nil))
def Gr06_Depths.fr16201 : Fr := [(1, .bx (.st 26)), (5, .own 3), (6, .int .i64), (7, .int .i64)]
def Gr06_Depths.ou16201 : Outs := [(0, [(1, .bx (.st 26)), (5, .own 3), (6, .int .i64), (7, .int .i64)])]
def Gr06_Depths.T16201 (x : Gr06_Depths.fr16201.T) (κ : Kp (Tp Gr06_Depths.rk) Gr06_Depths.ou16201) : Option (Tp Gr06_Depths.rk) := Gr06_Depths.p16201 x.1 x.2.1 x.2.2.1 x.2.2.2 κ.1
def Gr06_Depths.fr506 : Fr := [(1, .bx (.st 26)), (5, .own 3), (6, .int .i64), (7, .int .i64)]
def Gr06_Depths.ou506 : Outs := [(1, [(5, .own 3)])]
def Gr06_Depths.T506 (k : Nat) (x : Gr06_Depths.fr506.T) (κ : Kp (Tp Gr06_Depths.rk) Gr06_Depths.ou506) : Option (Tp Gr06_Depths.rk) := Gr06_Depths.l506 k x.1 x.2.1 x.2.2.1 x.2.2.2 κ.1
def Gr06_Depths.Λ0 : Cuts (Tp Gr06_Depths.rk) := cutsOf []
def Gr06_Depths.Λ1 : Cuts (Tp Gr06_Depths.rk) := cutsOf [(16201, cut Try.prog Gr06_Depths.fr16201 Gr06_Depths.ou16201 (Gr06_Depths.T16201))]
def Gr06_Depths.Λ : Cuts (Tp Gr06_Depths.rk) := cutsOf [(506, cut Try.prog Gr06_Depths.fr506 Gr06_Depths.ou506 (Gr06_Depths.T506 NN)), (16201, cut Try.prog Gr06_Depths.fr16201 Gr06_Depths.ou16201 (Gr06_Depths.T16201))]
theorem Gr06_Depths.c16201 (A : Nat → Prop) (w0 : World) : CutOk Try.prog ⟨Try.f25.ntmps, A⟩ w0 (kRet Try.prog Try.f25.results.toList Gr06_Depths.rk) (bodyOf Try.f25) 16201 (cut Try.prog Gr06_Depths.fr16201 Gr06_Depths.ou16201 (Gr06_Depths.T16201)) :=
  cut_ok Gr06_Depths.hρ (Λ := Gr06_Depths.Λ0) (cuts_nil) (by kernel_rfl) (by kernel_rfl) (D := 64) (c := nodeOf Try.f25 16201) (by kernel_rfl) (by kernel_rfl) (fun x κ => by kernel_rfl)
theorem Gr06_Depths.c506 (A : Nat → Prop) (w0 : World) : CutOk Try.prog ⟨Try.f25.ntmps, A⟩ w0 (kRet Try.prog Try.f25.results.toList Gr06_Depths.rk) (bodyOf Try.f25) 506 (cut Try.prog Gr06_Depths.fr506 Gr06_Depths.ou506 (Gr06_Depths.T506 NN)) :=
  loop_ok Gr06_Depths.hρ (Λ := Gr06_Depths.Λ1) (cuts_cons (Gr06_Depths.c16201 A w0) (cuts_nil)) (by kernel_rfl) (D := 64) (b := loopOf Try.f25 506) (by kernel_rfl) (by kernel_rfl) NN (fun x κ => by kernel_rfl) (fun k x κ => by kernel_rfl)
theorem Gr06_Depths.spec : Spec Try.prog 25 Gr06_Depths.pk Gr06_Depths.rk Gr06_Depths.g :=
  spec_of_body (fn := Try.f25) (c := bodyOf Try.f25) (by kernel_rfl) (by kernel_rfl) (by kernel_rfl) (by kernel_rfl) (ρ := Gr06_Depths.ρ) Gr06_Depths.hρ (Λ := Gr06_Depths.Λ) (fun A w0 => cuts_cons (Gr06_Depths.c506 A w0) (cuts_cons (Gr06_Depths.c16201 A w0) (cuts_nil))) (fun x => by kernel_rfl)

/-! ### 26 bluebell/bluebellref06.Room -/
def Gr06_Room.p8009 (v1 : D) (v4 : List D) (v6 : List D) (v7 : Int) (κ0 : (D × List D × List D × Int) → Option (List D × Int)) : Option (List D × Int) :=
  gd (inB (IntKind.i64.wrap ((v6.length : Int) - 1)) v6.length) (gd (Nat.blt (IntKind.i64.wrap ((v6.length : Int) - 1)).toNat v6.length) (gd (inB v7 v4.length) (gd (Nat.blt v7.toNat v4.length) (gd (inB v7 ((v1.cell 2).list).length) (gd (inB v7 v4.length) (gd (Nat.blt v7.toNat v4.length) ((Gr06_After.f (rd ((v1.cell 2).list) v7.toNat) ((rd v4 v7.toNat).int)).bind fun r2 => gd (inB (IntKind.i64.wrap ((v6.length : Int) - 1)) v6.length) (gd (Nat.blt (IntKind.i64.wrap ((v6.length : Int) - 1)).toNat v6.length) (κ0 (v1, v4, (v6.set (IntKind.i64.wrap ((v6.length : Int) - 1)).toNat (.i (if r2 > (if ((rd v4 v7.toNat).int) > ((rd v6 (IntKind.i64.wrap ((v6.length : Int) - 1)).toNat).int) then ((rd v4 v7.toNat).int) else ((rd v6 (IntKind.i64.wrap ((v6.length : Int) - 1)).toNat).int)) then r2 else if ((rd v4 v7.toNat).int) > ((rd v6 (IntKind.i64.wrap ((v6.length : Int) - 1)).toNat).int) then ((rd v4 v7.toNat).int) else ((rd v6 (IntKind.i64.wrap ((v6.length : Int) - 1)).toNat).int)))), v7))))))))))
def Gr06_Room.l250 : Nat → D → (List D) → (List D) → Int → (List D → Option (List D × Int)) → Option (List D × Int)
  | 0, _, _, _, _, _ => none
  | k + 1, v1, v4, v6, v7, κ1 =>
    bif decide (v7 < (((v1.cell 2).list).length : Int)) then gd (inB v7 ((v1.cell 2).list).length) (bif ((((rd ((v1.cell 2).list) v7.toNat).cell 0).int) == 24) then gd (Nat.ble (v6.length + ([.i 0] : List D).length) lim) (Gr06_Room.p8009 v1 v4 (v6 ++ ([.i 0] : List D)) v7 (fun y3 => Gr06_Room.l250 k y3.1 y3.2.1 y3.2.2.1 (IntKind.i64.wrap (y3.2.2.2 + 1)) κ1)) else Gr06_Room.p8009 v1 v4 v6 v7 (fun y4 => Gr06_Room.l250 k y4.1 y4.2.1 y4.2.2.1 (IntKind.i64.wrap (y4.2.2.2 + 1)) κ1)) else κ1 v6
def Gr06_Room.f (a0 : D) : Option (List D × Int) :=
  (Gr06_Depths.f a0).bind fun r1 => bif (r1.2 != 0) then some ([], r1.2) else Gr06_Room.l250 NN a0 r1.1 [] 0 (fun y5 => some (y5, 0))
def Gr06_Room.pk : List FK := [.st 26]
def Gr06_Room.rk : List FK := [.own 3, .int .i64]
def Gr06_Room.g : Tp Gr06_Room.pk → Option (Tp Gr06_Room.rk) := fun x => Gr06_Room.f x
def Gr06_Room.ρ : List (Entry (Tp Gr06_Room.rk)) := [entry _ Try.prog 25 Gr06_Depths.pk Gr06_Depths.rk Gr06_Depths.g, entry _ Try.prog 21 Gr06_After.pk Gr06_After.rk Gr06_After.g]
theorem Gr06_Room.hρ : ∀ e ∈ Gr06_Room.ρ, EntryOk Try.prog e :=
  ents_cons (ent (fn := Try.f25) Gr06_Depths.spec (by kernel_rfl) (by kernel_rfl) (by kernel_rfl) (by kernel_rfl)) (ents_cons (ent (fn := Try.f21) Gr06_After.spec (by kernel_rfl) (by kernel_rfl) (by kernel_rfl) (by kernel_rfl)) (ents_nil))
def Gr06_Room.fr8009 : Fr := [(1, .bx (.st 26)), (4, .own 3), (6, .own 3), (7, .int .i64)]
def Gr06_Room.ou8009 : Outs := [(0, [(1, .bx (.st 26)), (4, .own 3), (6, .own 3), (7, .int .i64)])]
def Gr06_Room.T8009 (x : Gr06_Room.fr8009.T) (κ : Kp (Tp Gr06_Room.rk) Gr06_Room.ou8009) : Option (Tp Gr06_Room.rk) := Gr06_Room.p8009 x.1 x.2.1 x.2.2.1 x.2.2.2 κ.1
def Gr06_Room.fr250 : Fr := [(1, .bx (.st 26)), (4, .own 3), (6, .own 3), (7, .int .i64)]
def Gr06_Room.ou250 : Outs := [(1, [(6, .own 3)])]
def Gr06_Room.T250 (k : Nat) (x : Gr06_Room.fr250.T) (κ : Kp (Tp Gr06_Room.rk) Gr06_Room.ou250) : Option (Tp Gr06_Room.rk) := Gr06_Room.l250 k x.1 x.2.1 x.2.2.1 x.2.2.2 κ.1
def Gr06_Room.Λ0 : Cuts (Tp Gr06_Room.rk) := cutsOf []
def Gr06_Room.Λ1 : Cuts (Tp Gr06_Room.rk) := cutsOf [(8009, cut Try.prog Gr06_Room.fr8009 Gr06_Room.ou8009 (Gr06_Room.T8009))]
def Gr06_Room.Λ : Cuts (Tp Gr06_Room.rk) := cutsOf [(250, cut Try.prog Gr06_Room.fr250 Gr06_Room.ou250 (Gr06_Room.T250 NN)), (8009, cut Try.prog Gr06_Room.fr8009 Gr06_Room.ou8009 (Gr06_Room.T8009))]
theorem Gr06_Room.c8009 (A : Nat → Prop) (w0 : World) : CutOk Try.prog ⟨Try.f26.ntmps, A⟩ w0 (kRet Try.prog Try.f26.results.toList Gr06_Room.rk) (bodyOf Try.f26) 8009 (cut Try.prog Gr06_Room.fr8009 Gr06_Room.ou8009 (Gr06_Room.T8009)) :=
  cut_ok Gr06_Room.hρ (Λ := Gr06_Room.Λ0) (cuts_nil) (by kernel_rfl) (by kernel_rfl) (D := 64) (c := nodeOf Try.f26 8009) (by kernel_rfl) (by kernel_rfl) (fun x κ => by kernel_rfl)
theorem Gr06_Room.c250 (A : Nat → Prop) (w0 : World) : CutOk Try.prog ⟨Try.f26.ntmps, A⟩ w0 (kRet Try.prog Try.f26.results.toList Gr06_Room.rk) (bodyOf Try.f26) 250 (cut Try.prog Gr06_Room.fr250 Gr06_Room.ou250 (Gr06_Room.T250 NN)) :=
  loop_ok Gr06_Room.hρ (Λ := Gr06_Room.Λ1) (cuts_cons (Gr06_Room.c8009 A w0) (cuts_nil)) (by kernel_rfl) (D := 64) (b := loopOf Try.f26 250) (by kernel_rfl) (by kernel_rfl) NN (fun x κ => by kernel_rfl) (fun k x κ => by kernel_rfl)
theorem Gr06_Room.spec : Spec Try.prog 26 Gr06_Room.pk Gr06_Room.rk Gr06_Room.g :=
  spec_of_body (fn := Try.f26) (c := bodyOf Try.f26) (by kernel_rfl) (by kernel_rfl) (by kernel_rfl) (by kernel_rfl) (ρ := Gr06_Room.ρ) Gr06_Room.hρ (Λ := Gr06_Room.Λ) (fun A w0 => cuts_cons (Gr06_Room.c250 A w0) (cuts_cons (Gr06_Room.c8009 A w0) (cuts_nil))) (fun x => by kernel_rfl)

/-! ### 14 bluebell/ocode.Jumps -/
def Gocode_Jumps.l250 : Nat → (List D) → (List D) → Int → Int → (List D → Option (List D × Int)) → Option (List D × Int)
  | 0, _, _, _, _, _ => none
  | k + 1, v5, v18, v19, v20, κ1 =>
    bif decide (v20 < v19) then gd (inB v20 v18.length) ((Gocode_Named.f (rd v18 v20.toNat)).bind fun r2 => bif decide (r2 > 0) then gd (inB (IntKind.i64.wrap (r2 - 1)) v5.length) (gd (Nat.blt (IntKind.i64.wrap (r2 - 1)).toNat v5.length) (gd (inB (IntKind.i64.wrap (r2 - 1)) v5.length) (gd (Nat.blt (IntKind.i64.wrap (r2 - 1)).toNat v5.length) (Gocode_Jumps.l250 k (v5.set (IntKind.i64.wrap (r2 - 1)).toNat (.i (IntKind.i64.wrap (((rd v5 (IntKind.i64.wrap (r2 - 1)).toNat).int) + 1)))) v18 v19 (IntKind.i64.wrap (v20 + 1)) κ1)))) else Gocode_Jumps.l250 k v5 v18 v19 (IntKind.i64.wrap (v20 + 1)) κ1) else κ1 v5
def Gocode_Jumps.f (a0 : D) : Option (List D × Int) :=
  (Gocode_Check.f a0).bind fun r1 => bif (r1 != 0) then some ([], r1) else gd (decide (0 ≤ ((a0.cell 5).int)) && decide (((a0.cell 5).int) ≤ (lim : Int))) (Gocode_Jumps.l250 NN (List.replicate ((a0.cell 5).int).toNat (.i 0 : D)) ((a0.cell 2).list) (((a0.cell 2).list).length : Int) 0 (fun y3 => some (y3, 0)))
def Gocode_Jumps.pk : List FK := [.st 26]
def Gocode_Jumps.rk : List FK := [.own 3, .int .i64]
def Gocode_Jumps.g : Tp Gocode_Jumps.pk → Option (Tp Gocode_Jumps.rk) := fun x => Gocode_Jumps.f x
def Gocode_Jumps.ρ : List (Entry (Tp Gocode_Jumps.rk)) := [entry _ Try.prog 20 Gocode_Check.pk Gocode_Check.rk Gocode_Check.g, entry _ Try.prog 35 Gocode_Named.pk Gocode_Named.rk Gocode_Named.g]
theorem Gocode_Jumps.hρ : ∀ e ∈ Gocode_Jumps.ρ, EntryOk Try.prog e :=
  ents_cons (ent (fn := Try.f20) Gocode_Check.spec (by kernel_rfl) (by kernel_rfl) (by kernel_rfl) (by kernel_rfl)) (ents_cons (ent (fn := Try.f35) Gocode_Named.spec (by kernel_rfl) (by kernel_rfl) (by kernel_rfl) (by kernel_rfl)) (ents_nil))
def Gocode_Jumps.fr250 : Fr := [(5, .own 3), (18, .sl 35), (19, .int .i64), (20, .int .i64)]
def Gocode_Jumps.ou250 : Outs := [(1, [(5, .own 3)])]
def Gocode_Jumps.T250 (k : Nat) (x : Gocode_Jumps.fr250.T) (κ : Kp (Tp Gocode_Jumps.rk) Gocode_Jumps.ou250) : Option (Tp Gocode_Jumps.rk) := Gocode_Jumps.l250 k x.1 x.2.1 x.2.2.1 x.2.2.2 κ.1
def Gocode_Jumps.Λ0 : Cuts (Tp Gocode_Jumps.rk) := cutsOf []
def Gocode_Jumps.Λ : Cuts (Tp Gocode_Jumps.rk) := cutsOf [(250, cut Try.prog Gocode_Jumps.fr250 Gocode_Jumps.ou250 (Gocode_Jumps.T250 NN))]
theorem Gocode_Jumps.c250 (A : Nat → Prop) (w0 : World) : CutOk Try.prog ⟨Try.f14.ntmps, A⟩ w0 (kRet Try.prog Try.f14.results.toList Gocode_Jumps.rk) (bodyOf Try.f14) 250 (cut Try.prog Gocode_Jumps.fr250 Gocode_Jumps.ou250 (Gocode_Jumps.T250 NN)) :=
  loop_ok Gocode_Jumps.hρ (Λ := Gocode_Jumps.Λ0) (cuts_nil) (by kernel_rfl) (D := 64) (b := loopOf Try.f14 250) (by kernel_rfl) (by kernel_rfl) NN (fun x κ => by kernel_rfl) (fun k x κ => by kernel_rfl)
theorem Gocode_Jumps.spec : Spec Try.prog 14 Gocode_Jumps.pk Gocode_Jumps.rk Gocode_Jumps.g :=
  spec_of_body (fn := Try.f14) (c := bodyOf Try.f14) (by kernel_rfl) (by kernel_rfl) (by kernel_rfl) (by kernel_rfl) (ρ := Gocode_Jumps.ρ) Gocode_Jumps.hρ (Λ := Gocode_Jumps.Λ) (fun A w0 => cuts_cons (Gocode_Jumps.c250 A w0) (cuts_nil)) (fun x => by kernel_rfl)

/-! ### 27 bluebell/bluebellref06.Jumps -/
def Gr06_Jumps.l250 : Nat → D → (List D) → Int → (List D → Option (List D × Int)) → Option (List D × Int)
  | 0, _, _, _, _ => none
  | k + 1, v1, v5, v6, κ1 =>
    bif decide (v6 < (((v1.cell 2).list).length : Int)) then gd (inB v6 ((v1.cell 2).list).length) ((Gr06_Label.f (rd ((v1.cell 2).list) v6.toNat)).bind fun r2 => bif decide (r2 > 0) then gd (inB (IntKind.i64.wrap (r2 - 1)) v5.length) (gd (Nat.blt (IntKind.i64.wrap (r2 - 1)).toNat v5.length) (gd (inB (IntKind.i64.wrap (r2 - 1)) v5.length) (gd (Nat.blt (IntKind.i64.wrap (r2 - 1)).toNat v5.length) (Gr06_Jumps.l250 k v1 (v5.set (IntKind.i64.wrap (r2 - 1)).toNat (.i (IntKind.i64.wrap (((rd v5 (IntKind.i64.wrap (r2 - 1)).toNat).int) + 1)))) (IntKind.i64.wrap (v6 + 1)) κ1)))) else Gr06_Jumps.l250 k v1 v5 (IntKind.i64.wrap (v6 + 1)) κ1) else κ1 v5
def Gr06_Jumps.f (a0 : D) : Option (List D × Int) :=
  (Gr06_Check.f a0).bind fun r1 => bif (r1 != 0) then some ([], r1) else gd (decide (0 ≤ ((a0.cell 5).int)) && decide (((a0.cell 5).int) ≤ (lim : Int))) (Gr06_Jumps.l250 NN a0 (List.replicate ((a0.cell 5).int).toNat (.i 0 : D)) 0 (fun y3 => some (y3, 0)))
def Gr06_Jumps.pk : List FK := [.st 26]
def Gr06_Jumps.rk : List FK := [.own 3, .int .i64]
def Gr06_Jumps.g : Tp Gr06_Jumps.pk → Option (Tp Gr06_Jumps.rk) := fun x => Gr06_Jumps.f x
def Gr06_Jumps.ρ : List (Entry (Tp Gr06_Jumps.rk)) := [entry _ Try.prog 22 Gr06_Check.pk Gr06_Check.rk Gr06_Check.g, entry _ Try.prog 15 Gr06_Label.pk Gr06_Label.rk Gr06_Label.g]
theorem Gr06_Jumps.hρ : ∀ e ∈ Gr06_Jumps.ρ, EntryOk Try.prog e :=
  ents_cons (ent (fn := Try.f22) Gr06_Check.spec (by kernel_rfl) (by kernel_rfl) (by kernel_rfl) (by kernel_rfl)) (ents_cons (ent (fn := Try.f15) Gr06_Label.spec (by kernel_rfl) (by kernel_rfl) (by kernel_rfl) (by kernel_rfl)) (ents_nil))
def Gr06_Jumps.fr250 : Fr := [(1, .bx (.st 26)), (5, .own 3), (6, .int .i64)]
def Gr06_Jumps.ou250 : Outs := [(1, [(5, .own 3)])]
def Gr06_Jumps.T250 (k : Nat) (x : Gr06_Jumps.fr250.T) (κ : Kp (Tp Gr06_Jumps.rk) Gr06_Jumps.ou250) : Option (Tp Gr06_Jumps.rk) := Gr06_Jumps.l250 k x.1 x.2.1 x.2.2 κ.1
def Gr06_Jumps.Λ0 : Cuts (Tp Gr06_Jumps.rk) := cutsOf []
def Gr06_Jumps.Λ : Cuts (Tp Gr06_Jumps.rk) := cutsOf [(250, cut Try.prog Gr06_Jumps.fr250 Gr06_Jumps.ou250 (Gr06_Jumps.T250 NN))]
theorem Gr06_Jumps.c250 (A : Nat → Prop) (w0 : World) : CutOk Try.prog ⟨Try.f27.ntmps, A⟩ w0 (kRet Try.prog Try.f27.results.toList Gr06_Jumps.rk) (bodyOf Try.f27) 250 (cut Try.prog Gr06_Jumps.fr250 Gr06_Jumps.ou250 (Gr06_Jumps.T250 NN)) :=
  loop_ok Gr06_Jumps.hρ (Λ := Gr06_Jumps.Λ0) (cuts_nil) (by kernel_rfl) (D := 64) (b := loopOf Try.f27 250) (by kernel_rfl) (by kernel_rfl) NN (fun x κ => by kernel_rfl) (fun k x κ => by kernel_rfl)
theorem Gr06_Jumps.spec : Spec Try.prog 27 Gr06_Jumps.pk Gr06_Jumps.rk Gr06_Jumps.g :=
  spec_of_body (fn := Try.f27) (c := bodyOf Try.f27) (by kernel_rfl) (by kernel_rfl) (by kernel_rfl) (by kernel_rfl) (ρ := Gr06_Jumps.ρ) Gr06_Jumps.hρ (Λ := Gr06_Jumps.Λ) (fun A w0 => cuts_cons (Gr06_Jumps.c250 A w0) (cuts_nil)) (fun x => by kernel_rfl)

/-! ### 8 bluebell/bluebelllaw06.OcodeDepths -/
def Gw06_OcodeDepths.f (a0 : D) : Option Bool :=
  (Gw06_heavy.f a0).bind fun r1 => bif r1 then (Gw06_awake.f).bind fun r2 => some r2 else (Gocode_Depths.f a0).bind fun r3 => (Gr06_Depths.f a0).bind fun r4 => (Gocode_Room.f a0).bind fun r5 => (Gr06_Room.f a0).bind fun r6 => (Gocode_Jumps.f a0).bind fun r7 => (Gr06_Jumps.f a0).bind fun r8 => (Gr00_EqInts.f r3.1 r4.1).bind fun r9 => (bif (r9 && (r3.2 == r4.2)) then Gr00_EqInts.f r5.1 r6.1 else some false).bind fun r10 => (bif (((r9 && (r3.2 == r4.2)) && r10) && (r5.2 == r6.2)) then Gr00_EqInts.f r7.1 r8.1 else some false).bind fun r11 => (bif (((((r9 && (r3.2 == r4.2)) && r10) && (r5.2 == r6.2)) && r11) && (r7.2 == r8.2)) then Gw06_awake.f else some false).bind fun r12 => some ((((((r9 && (r3.2 == r4.2)) && r10) && (r5.2 == r6.2)) && r11) && (r7.2 == r8.2)) && r12)
def Gw06_OcodeDepths.pk : List FK := [.st 26]
def Gw06_OcodeDepths.rk : List FK := [.bool]
def Gw06_OcodeDepths.g : Tp Gw06_OcodeDepths.pk → Option (Tp Gw06_OcodeDepths.rk) := fun x => Gw06_OcodeDepths.f x
def Gw06_OcodeDepths.ρ : List (Entry (Tp Gw06_OcodeDepths.rk)) := [entry _ Try.prog 12 Gw06_heavy.pk Gw06_heavy.rk Gw06_heavy.g, entry _ Try.prog 13 Gw06_awake.pk Gw06_awake.rk Gw06_awake.g, entry _ Try.prog 16 Gocode_Depths.pk Gocode_Depths.rk Gocode_Depths.g, entry _ Try.prog 25 Gr06_Depths.pk Gr06_Depths.rk Gr06_Depths.g, entry _ Try.prog 18 Gocode_Room.pk Gocode_Room.rk Gocode_Room.g, entry _ Try.prog 26 Gr06_Room.pk Gr06_Room.rk Gr06_Room.g, entry _ Try.prog 14 Gocode_Jumps.pk Gocode_Jumps.rk Gocode_Jumps.g, entry _ Try.prog 27 Gr06_Jumps.pk Gr06_Jumps.rk Gr06_Jumps.g, entry _ Try.prog 19 Gr00_EqInts.pk Gr00_EqInts.rk Gr00_EqInts.g]
theorem Gw06_OcodeDepths.hρ : ∀ e ∈ Gw06_OcodeDepths.ρ, EntryOk Try.prog e :=
  ents_cons (ent (fn := Try.f12) Gw06_heavy.spec (by kernel_rfl) (by kernel_rfl) (by kernel_rfl) (by kernel_rfl)) (ents_cons (ent (fn := Try.f13) Gw06_awake.spec (by kernel_rfl) (by kernel_rfl) (by kernel_rfl) (by kernel_rfl)) (ents_cons (ent (fn := Try.f16) Gocode_Depths.spec (by kernel_rfl) (by kernel_rfl) (by kernel_rfl) (by kernel_rfl)) (ents_cons (ent (fn := Try.f25) Gr06_Depths.spec (by kernel_rfl) (by kernel_rfl) (by kernel_rfl) (by kernel_rfl)) (ents_cons (ent (fn := Try.f18) Gocode_Room.spec (by kernel_rfl) (by kernel_rfl) (by kernel_rfl) (by kernel_rfl)) (ents_cons (ent (fn := Try.f26) Gr06_Room.spec (by kernel_rfl) (by kernel_rfl) (by kernel_rfl) (by kernel_rfl)) (ents_cons (ent (fn := Try.f14) Gocode_Jumps.spec (by kernel_rfl) (by kernel_rfl) (by kernel_rfl) (by kernel_rfl)) (ents_cons (ent (fn := Try.f27) Gr06_Jumps.spec (by kernel_rfl) (by kernel_rfl) (by kernel_rfl) (by kernel_rfl)) (ents_cons (ent (fn := Try.f19) Gr00_EqInts.spec (by kernel_rfl) (by kernel_rfl) (by kernel_rfl) (by kernel_rfl)) (ents_nil)))))))))
def Gw06_OcodeDepths.Λ : Cuts (Tp Gw06_OcodeDepths.rk) := cutsOf []
theorem Gw06_OcodeDepths.spec : Spec Try.prog 8 Gw06_OcodeDepths.pk Gw06_OcodeDepths.rk Gw06_OcodeDepths.g :=
  spec_of_body (fn := Try.f8) (c := bodyOf Try.f8) (by kernel_rfl) (by kernel_rfl) (by kernel_rfl) (by kernel_rfl) (ρ := Gw06_OcodeDepths.ρ) Gw06_OcodeDepths.hρ (Λ := Gw06_OcodeDepths.Λ) (fun A w0 => cuts_nil) (fun x => by kernel_rfl)

/-! ### 91 slices.Clone[[]bluebell/api.Op,bluebell/api.Op] -/
def Gslices_Clone___bluebell_api_Op_bluebell_api_Op.f (a0 : List D) : Option (List D) :=
  match a0 with
  | [] => some []
  | x0 :: xs0 => gd (Nat.ble (([] : List D).length + (x0 :: xs0).length) lim) (some (([] : List D) ++ (x0 :: xs0)))
def Gslices_Clone___bluebell_api_Op_bluebell_api_Op.pk : List FK := [.sl 35]
def Gslices_Clone___bluebell_api_Op_bluebell_api_Op.rk : List FK := [.own 35]
def Gslices_Clone___bluebell_api_Op_bluebell_api_Op.g : Tp Gslices_Clone___bluebell_api_Op_bluebell_api_Op.pk → Option (Tp Gslices_Clone___bluebell_api_Op_bluebell_api_Op.rk) := fun x => Gslices_Clone___bluebell_api_Op_bluebell_api_Op.f x
def Gslices_Clone___bluebell_api_Op_bluebell_api_Op.ρ : List (Entry (Tp Gslices_Clone___bluebell_api_Op_bluebell_api_Op.rk)) := []
theorem Gslices_Clone___bluebell_api_Op_bluebell_api_Op.hρ : ∀ e ∈ Gslices_Clone___bluebell_api_Op_bluebell_api_Op.ρ, EntryOk Try.prog e :=
  ents_nil
def Gslices_Clone___bluebell_api_Op_bluebell_api_Op.Λ : Cuts (Tp Gslices_Clone___bluebell_api_Op_bluebell_api_Op.rk) := cutsOf []
theorem Gslices_Clone___bluebell_api_Op_bluebell_api_Op.spec : Spec Try.prog 91 Gslices_Clone___bluebell_api_Op_bluebell_api_Op.pk Gslices_Clone___bluebell_api_Op_bluebell_api_Op.rk Gslices_Clone___bluebell_api_Op_bluebell_api_Op.g :=
  spec_of_slice (e := 35) (by kernel_rfl) (fn := Try.f91) (c := bodyOf Try.f91) (by kernel_rfl) (by kernel_rfl) (by kernel_rfl) (by kernel_rfl) (ρ := Gslices_Clone___bluebell_api_Op_bluebell_api_Op.ρ) Gslices_Clone___bluebell_api_Op_bluebell_api_Op.hρ (Λ := Gslices_Clone___bluebell_api_Op_bluebell_api_Op.Λ) (fun A w0 => cuts_nil) (g := Gslices_Clone___bluebell_api_Op_bluebell_api_Op.g) (by kernel_rfl) (by kernel_rfl) (fun x xs => by kernel_rfl)

/-! ### 92 slices.Clone[[]bluebell/api.Entry,bluebell/api.Entry] -/
def Gslices_Clone___bluebell_api_Entry_bluebell_api_Entry.f (a0 : List D) : Option (List D) :=
  match a0 with
  | [] => some []
  | x0 :: xs0 => gd (Nat.ble (([] : List D).length + (x0 :: xs0).length) lim) (some (([] : List D) ++ (x0 :: xs0)))
def Gslices_Clone___bluebell_api_Entry_bluebell_api_Entry.pk : List FK := [.sl 68]
def Gslices_Clone___bluebell_api_Entry_bluebell_api_Entry.rk : List FK := [.own 68]
def Gslices_Clone___bluebell_api_Entry_bluebell_api_Entry.g : Tp Gslices_Clone___bluebell_api_Entry_bluebell_api_Entry.pk → Option (Tp Gslices_Clone___bluebell_api_Entry_bluebell_api_Entry.rk) := fun x => Gslices_Clone___bluebell_api_Entry_bluebell_api_Entry.f x
def Gslices_Clone___bluebell_api_Entry_bluebell_api_Entry.ρ : List (Entry (Tp Gslices_Clone___bluebell_api_Entry_bluebell_api_Entry.rk)) := []
theorem Gslices_Clone___bluebell_api_Entry_bluebell_api_Entry.hρ : ∀ e ∈ Gslices_Clone___bluebell_api_Entry_bluebell_api_Entry.ρ, EntryOk Try.prog e :=
  ents_nil
def Gslices_Clone___bluebell_api_Entry_bluebell_api_Entry.Λ : Cuts (Tp Gslices_Clone___bluebell_api_Entry_bluebell_api_Entry.rk) := cutsOf []
theorem Gslices_Clone___bluebell_api_Entry_bluebell_api_Entry.spec : Spec Try.prog 92 Gslices_Clone___bluebell_api_Entry_bluebell_api_Entry.pk Gslices_Clone___bluebell_api_Entry_bluebell_api_Entry.rk Gslices_Clone___bluebell_api_Entry_bluebell_api_Entry.g :=
  spec_of_slice (e := 68) (by kernel_rfl) (fn := Try.f92) (c := bodyOf Try.f92) (by kernel_rfl) (by kernel_rfl) (by kernel_rfl) (by kernel_rfl) (ρ := Gslices_Clone___bluebell_api_Entry_bluebell_api_Entry.ρ) Gslices_Clone___bluebell_api_Entry_bluebell_api_Entry.hρ (Λ := Gslices_Clone___bluebell_api_Entry_bluebell_api_Entry.Λ) (fun A w0 => cuts_nil) (g := Gslices_Clone___bluebell_api_Entry_bluebell_api_Entry.g) (by kernel_rfl) (by kernel_rfl) (fun x xs => by kernel_rfl)

/-! ### 93 slices.Clone[[]bluebell/api.Data,bluebell/api.Data] -/
def Gslices_Clone___bluebell_api_Data_bluebell_api_Data.f (a0 : List D) : Option (List D) :=
  match a0 with
  | [] => some []
  | x0 :: xs0 => gd (Nat.ble (([] : List D).length + (x0 :: xs0).length) lim) (some (([] : List D) ++ (x0 :: xs0)))
def Gslices_Clone___bluebell_api_Data_bluebell_api_Data.pk : List FK := [.sl 47]
def Gslices_Clone___bluebell_api_Data_bluebell_api_Data.rk : List FK := [.own 47]
def Gslices_Clone___bluebell_api_Data_bluebell_api_Data.g : Tp Gslices_Clone___bluebell_api_Data_bluebell_api_Data.pk → Option (Tp Gslices_Clone___bluebell_api_Data_bluebell_api_Data.rk) := fun x => Gslices_Clone___bluebell_api_Data_bluebell_api_Data.f x
def Gslices_Clone___bluebell_api_Data_bluebell_api_Data.ρ : List (Entry (Tp Gslices_Clone___bluebell_api_Data_bluebell_api_Data.rk)) := []
theorem Gslices_Clone___bluebell_api_Data_bluebell_api_Data.hρ : ∀ e ∈ Gslices_Clone___bluebell_api_Data_bluebell_api_Data.ρ, EntryOk Try.prog e :=
  ents_nil
def Gslices_Clone___bluebell_api_Data_bluebell_api_Data.Λ : Cuts (Tp Gslices_Clone___bluebell_api_Data_bluebell_api_Data.rk) := cutsOf []
theorem Gslices_Clone___bluebell_api_Data_bluebell_api_Data.spec : Spec Try.prog 93 Gslices_Clone___bluebell_api_Data_bluebell_api_Data.pk Gslices_Clone___bluebell_api_Data_bluebell_api_Data.rk Gslices_Clone___bluebell_api_Data_bluebell_api_Data.g :=
  spec_of_slice (e := 47) (by kernel_rfl) (fn := Try.f93) (c := bodyOf Try.f93) (by kernel_rfl) (by kernel_rfl) (by kernel_rfl) (by kernel_rfl) (ρ := Gslices_Clone___bluebell_api_Data_bluebell_api_Data.ρ) Gslices_Clone___bluebell_api_Data_bluebell_api_Data.hρ (Λ := Gslices_Clone___bluebell_api_Data_bluebell_api_Data.Λ) (fun A w0 => cuts_nil) (g := Gslices_Clone___bluebell_api_Data_bluebell_api_Data.g) (by kernel_rfl) (by kernel_rfl) (fun x xs => by kernel_rfl)

/-! ### 94 slices.Clone[[]int,int] -/
def Gslices_Clone___int_int.f (a0 : List D) : Option (List D) :=
  match a0 with
  | [] => some []
  | x0 :: xs0 => gd (Nat.ble (([] : List D).length + (x0 :: xs0).length) lim) (some (([] : List D) ++ (x0 :: xs0)))
def Gslices_Clone___int_int.pk : List FK := [.sl 3]
def Gslices_Clone___int_int.rk : List FK := [.own 3]
def Gslices_Clone___int_int.g : Tp Gslices_Clone___int_int.pk → Option (Tp Gslices_Clone___int_int.rk) := fun x => Gslices_Clone___int_int.f x
def Gslices_Clone___int_int.ρ : List (Entry (Tp Gslices_Clone___int_int.rk)) := []
theorem Gslices_Clone___int_int.hρ : ∀ e ∈ Gslices_Clone___int_int.ρ, EntryOk Try.prog e :=
  ents_nil
def Gslices_Clone___int_int.Λ : Cuts (Tp Gslices_Clone___int_int.rk) := cutsOf []
theorem Gslices_Clone___int_int.spec : Spec Try.prog 94 Gslices_Clone___int_int.pk Gslices_Clone___int_int.rk Gslices_Clone___int_int.g :=
  spec_of_slice (e := 3) (by kernel_rfl) (fn := Try.f94) (c := bodyOf Try.f94) (by kernel_rfl) (by kernel_rfl) (by kernel_rfl) (by kernel_rfl) (ρ := Gslices_Clone___int_int.ρ) Gslices_Clone___int_int.hρ (Λ := Gslices_Clone___int_int.Λ) (fun A w0 => cuts_nil) (g := Gslices_Clone___int_int.g) (by kernel_rfl) (by kernel_rfl) (fun x xs => by kernel_rfl)

/-! ### 76 bluebell/ocode.Clone -/
def Gocode_Clone.l58 : Nat → ((ByteArray × List D × List D × List D × Int × Int × Unit)) → D → Int → Int → (((ByteArray × List D × List D × List D × Int × Int × Unit) × D) → Option (ByteArray × List D × List D × List D × Int × Int × Unit)) → Option (ByteArray × List D × List D × List D × Int × Int × Unit)
  | 0, _, _, _, _, _ => none
  | k + 1, v1, v2, v18, v19, κ1 =>
    bif decide (v19 < v18) then gd (inB v19 v1.2.1.length) (gd (Nat.blt v19.toNat v1.2.1.length) ((Gslices_Clone___int_int.f (((rd v1.2.1 v19.toNat).cell 2).list)).bind fun r4 => gd (inB v19 v1.2.1.length) (gd (Nat.blt v19.toNat v1.2.1.length) (Gocode_Clone.l58 k (v1.1, (v1.2.1.set v19.toNat (.r [(rd v1.2.1 v19.toNat).cell 0, (rd v1.2.1 v19.toNat).cell 1, .l r4])), v1.2.2.1, v1.2.2.2.1, v1.2.2.2.2.1, v1.2.2.2.2.2.1, ()) v2 v18 (IntKind.i64.wrap (v19 + 1)) κ1)))) else κ1 ((v1.1, v1.2.1, v1.2.2.1, v1.2.2.2.1, v1.2.2.2.2.1, v1.2.2.2.2.2.1, ()), v2)
def Gocode_Clone.f (a0 : D) : Option (ByteArray × List D × List D × List D × Int × Int × Unit) :=
  (Gslices_Clone___bluebell_api_Op_bluebell_api_Op.f ((a0.cell 2).list)).bind fun r1 => (Gslices_Clone___bluebell_api_Entry_bluebell_api_Entry.f ((a0.cell 3).list)).bind fun r2 => (Gslices_Clone___bluebell_api_Data_bluebell_api_Data.f ((a0.cell 1).list)).bind fun r3 => Gocode_Clone.l58 NN ((a0.cell 0).str, r3, r1, r2, (a0.cell 4).int, (a0.cell 5).int, ()) (.r [.s ByteArray.empty, .l [], .l [], .l [], .i 0, .i 0]) (r3.length : Int) 0 (fun y5 => some (y5.1.1, y5.1.2.1, y5.1.2.2.1, y5.1.2.2.2.1, y5.1.2.2.2.2.1, y5.1.2.2.2.2.2.1, ()))
def Gocode_Clone.pk : List FK := [.st 26]
def Gocode_Clone.rk : List FK := [.cn (.str) (.cn (.own 47) (.cn (.own 35) (.cn (.own 68) (.cn (.int .i64) (.cn (.int .i64) (.ce))))))]
def Gocode_Clone.g : Tp Gocode_Clone.pk → Option (Tp Gocode_Clone.rk) := fun x => Gocode_Clone.f x
def Gocode_Clone.ρ : List (Entry (Tp Gocode_Clone.rk)) := [entry _ Try.prog 91 Gslices_Clone___bluebell_api_Op_bluebell_api_Op.pk Gslices_Clone___bluebell_api_Op_bluebell_api_Op.rk Gslices_Clone___bluebell_api_Op_bluebell_api_Op.g, entry _ Try.prog 92 Gslices_Clone___bluebell_api_Entry_bluebell_api_Entry.pk Gslices_Clone___bluebell_api_Entry_bluebell_api_Entry.rk Gslices_Clone___bluebell_api_Entry_bluebell_api_Entry.g, entry _ Try.prog 93 Gslices_Clone___bluebell_api_Data_bluebell_api_Data.pk Gslices_Clone___bluebell_api_Data_bluebell_api_Data.rk Gslices_Clone___bluebell_api_Data_bluebell_api_Data.g, entry _ Try.prog 94 Gslices_Clone___int_int.pk Gslices_Clone___int_int.rk Gslices_Clone___int_int.g]
theorem Gocode_Clone.hρ : ∀ e ∈ Gocode_Clone.ρ, EntryOk Try.prog e :=
  ents_cons (ent (fn := Try.f91) Gslices_Clone___bluebell_api_Op_bluebell_api_Op.spec (by kernel_rfl) (by kernel_rfl) (by kernel_rfl) (by kernel_rfl)) (ents_cons (ent (fn := Try.f92) Gslices_Clone___bluebell_api_Entry_bluebell_api_Entry.spec (by kernel_rfl) (by kernel_rfl) (by kernel_rfl) (by kernel_rfl)) (ents_cons (ent (fn := Try.f93) Gslices_Clone___bluebell_api_Data_bluebell_api_Data.spec (by kernel_rfl) (by kernel_rfl) (by kernel_rfl) (by kernel_rfl)) (ents_cons (ent (fn := Try.f94) Gslices_Clone___int_int.spec (by kernel_rfl) (by kernel_rfl) (by kernel_rfl) (by kernel_rfl)) (ents_nil))))
def Gocode_Clone.fr58 : Fr := [(1, .bx (.cn (.str) (.cn (.own 47) (.cn (.own 35) (.cn (.own 68) (.cn (.int .i64) (.cn (.int .i64) (.ce)))))))), (2, .bx (.st 26)), (18, .int .i64), (19, .int .i64)]
def Gocode_Clone.ou58 : Outs := [(1, [(1, .bx (.cn (.str) (.cn (.own 47) (.cn (.own 35) (.cn (.own 68) (.cn (.int .i64) (.cn (.int .i64) (.ce)))))))), (2, .bx (.st 26))])]
def Gocode_Clone.T58 (k : Nat) (x : Gocode_Clone.fr58.T) (κ : Kp (Tp Gocode_Clone.rk) Gocode_Clone.ou58) : Option (Tp Gocode_Clone.rk) := Gocode_Clone.l58 k x.1 x.2.1 x.2.2.1 x.2.2.2 κ.1
def Gocode_Clone.Λ0 : Cuts (Tp Gocode_Clone.rk) := cutsOf []
def Gocode_Clone.Λ : Cuts (Tp Gocode_Clone.rk) := cutsOf [(58, cut Try.prog Gocode_Clone.fr58 Gocode_Clone.ou58 (Gocode_Clone.T58 NN))]
theorem Gocode_Clone.c58 (A : Nat → Prop) (w0 : World) : CutOk Try.prog ⟨Try.f76.ntmps, A⟩ w0 (kRet Try.prog Try.f76.results.toList Gocode_Clone.rk) (bodyOf Try.f76) 58 (cut Try.prog Gocode_Clone.fr58 Gocode_Clone.ou58 (Gocode_Clone.T58 NN)) :=
  loop_ok Gocode_Clone.hρ (Λ := Gocode_Clone.Λ0) (cuts_nil) (by kernel_rfl) (D := 64) (b := loopOf Try.f76 58) (by kernel_rfl) (by kernel_rfl) NN (fun x κ => by kernel_rfl) (fun k x κ => by kernel_rfl)
theorem Gocode_Clone.spec : Spec Try.prog 76 Gocode_Clone.pk Gocode_Clone.rk Gocode_Clone.g :=
  spec_of_body (fn := Try.f76) (c := bodyOf Try.f76) (by kernel_rfl) (by kernel_rfl) (by kernel_rfl) (by kernel_rfl) (ρ := Gocode_Clone.ρ) Gocode_Clone.hρ (Λ := Gocode_Clone.Λ) (fun A w0 => cuts_cons (Gocode_Clone.c58 A w0) (cuts_nil)) (fun x => by kernel_rfl)

/-! ### 54 bluebell/ocode.Labelled -/
def Gocode_Labelled.l122 : Nat → ((ByteArray × List D × List D × List D × Int × Int × Unit)) → D → (List (D × D)) → Unit → Int → Int → (((ByteArray × List D × List D × List D × Int × Int × Unit) × D × List (D × D)) → Option (ByteArray × List D × List D × List D × Int × Int × Unit)) → Option (ByteArray × List D × List D × List D × Int × Int × Unit)
  | 0, _, _, _, _, _, _, _ => none
  | k + 1, v1, v2, v3, v12, v13, v14, κ1 =>
    bif decide (v14 < v13) then gd (inB v14 v1.2.2.1.length) (gd (Nat.blt v14.toNat v1.2.2.1.length) (bif ((((rd v1.2.2.1 v14.toNat).cell 0).int) == 19) then gd ((inK .i64 (((rd v1.2.2.1 v14.toNat).cell 1).int)) && ((inK .i64 (IntKind.i64.wrap (((mlen (K.int .i64) v3 : Nat) : Int) + 1))) && Nat.blt v3.length lim)) (Gocode_Labelled.l122 k (v1.1, v1.2.1, v1.2.2.1, v1.2.2.2.1, v1.2.2.2.2.1, v1.2.2.2.2.2.1, ()) v2 ((.i (((rd v1.2.2.1 v14.toNat).cell 1).int), .i (IntKind.i64.wrap (((mlen (K.int .i64) v3 : Nat) : Int) + 1))) :: v3) () v13 (IntKind.i64.wrap (v14 + 1)) κ1) else Gocode_Labelled.l122 k (v1.1, v1.2.1, v1.2.2.1, v1.2.2.2.1, v1.2.2.2.2.1, v1.2.2.2.2.2.1, ()) v2 v3 () v13 (IntKind.i64.wrap (v14 + 1)) κ1)) else κ1 ((v1.1, v1.2.1, v1.2.2.1, v1.2.2.2.1, v1.2.2.2.2.1, v1.2.2.2.2.2.1, ()), v2, v3)
def Gocode_Labelled.l250 : Nat → ((ByteArray × List D × List D × List D × Int × Int × Unit)) → D → (List (D × D)) → Int → Int → (((ByteArray × List D × List D × List D × Int × Int × Unit) × D × List (D × D)) → Option (ByteArray × List D × List D × List D × Int × Int × Unit)) → Option (ByteArray × List D × List D × List D × Int × Int × Unit)
  | 0, _, _, _, _, _, _ => none
  | k + 1, v1, v2, v3, v30, v31, κ3 =>
    bif decide (v31 < v30) then gd (inB v31 v1.2.2.1.length) (gd (Nat.blt v31.toNat v1.2.2.1.length) (bif ((((rd v1.2.2.1 v31.toNat).cell 0).int) == 30) then gd (Nat.blt v31.toNat v1.2.2.1.length) (gd (inK .i64 (((rd v1.2.2.1 v31.toNat).cell 2).int)) (gd (Nat.blt v31.toNat v1.2.2.1.length) (Gocode_Labelled.l250 k (v1.1, v1.2.1, (v1.2.2.1.set v31.toNat (.r [(rd v1.2.2.1 v31.toNat).cell 0, (rd v1.2.2.1 v31.toNat).cell 1, .i ((mget (K.int .i64) (.i (((rd v1.2.2.1 v31.toNat).cell 2).int)) (.i 0) v3).int)])), v1.2.2.2.1, v1.2.2.2.2.1, v1.2.2.2.2.2.1, ()) v2 v3 v30 (IntKind.i64.wrap (v31 + 1)) κ3))) else gd (Nat.blt v31.toNat v1.2.2.1.length) (gd ((!(!((((rd v1.2.2.1 v31.toNat).cell 0).int) == 19))) || (Nat.blt v31.toNat v1.2.2.1.length)) ((bif (!((((rd v1.2.2.1 v31.toNat).cell 0).int) == 19)) then Gocode_Named.f (rd v1.2.2.1 v31.toNat) else some 0).bind fun r3 => bif (((((rd v1.2.2.1 v31.toNat).cell 0).int) == 19) || (decide (r3 > 0))) then gd (Nat.blt v31.toNat v1.2.2.1.length) (gd (inK .i64 (((rd v1.2.2.1 v31.toNat).cell 1).int)) (gd (Nat.blt v31.toNat v1.2.2.1.length) (Gocode_Labelled.l250 k (v1.1, v1.2.1, (v1.2.2.1.set v31.toNat (.r [(rd v1.2.2.1 v31.toNat).cell 0, .i ((mget (K.int .i64) (.i (((rd v1.2.2.1 v31.toNat).cell 1).int)) (.i 0) v3).int), (rd v1.2.2.1 v31.toNat).cell 2])), v1.2.2.2.1, v1.2.2.2.2.1, v1.2.2.2.2.2.1, ()) v2 v3 v30 (IntKind.i64.wrap (v31 + 1)) κ3))) else Gocode_Labelled.l250 k (v1.1, v1.2.1, v1.2.2.1, v1.2.2.2.1, v1.2.2.2.2.1, v1.2.2.2.2.2.1, ()) v2 v3 v30 (IntKind.i64.wrap (v31 + 1)) κ3)))) else κ3 ((v1.1, v1.2.1, v1.2.2.1, v1.2.2.2.1, v1.2.2.2.2.1, v1.2.2.2.2.2.1, ()), v2, v3)
def Gocode_Labelled.f (a0 : D) : Option (ByteArray × List D × List D × List D × Int × Int × Unit) :=
  (Gocode_Clone.f a0).bind fun r1 => Gocode_Labelled.l122 NN (r1.1, r1.2.1, r1.2.2.1, r1.2.2.2.1, r1.2.2.2.2.1, r1.2.2.2.2.2.1, ()) (.r [.s ByteArray.empty, .l [], .l [], .l [], .i 0, .i 0]) ([] : List (D × D)) () (r1.2.2.1.length : Int) 0 (fun y2 => Gocode_Labelled.l250 NN (y2.1.1, y2.1.2.1, y2.1.2.2.1, y2.1.2.2.2.1, y2.1.2.2.2.2.1, y2.1.2.2.2.2.2.1, ()) y2.2.1 y2.2.2 (y2.1.2.2.1.length : Int) 0 (fun y4 => some (y4.1.1, y4.1.2.1, y4.1.2.2.1, y4.1.2.2.2.1, y4.1.2.2.2.2.1, ((mlen (K.int .i64) y4.2.2 : Nat) : Int), ())))
def Gocode_Labelled.pk : List FK := [.st 26]
def Gocode_Labelled.rk : List FK := [.cn (.str) (.cn (.own 47) (.cn (.own 35) (.cn (.own 68) (.cn (.int .i64) (.cn (.int .i64) (.ce))))))]
def Gocode_Labelled.g : Tp Gocode_Labelled.pk → Option (Tp Gocode_Labelled.rk) := fun x => Gocode_Labelled.f x
def Gocode_Labelled.ρ : List (Entry (Tp Gocode_Labelled.rk)) := [entry _ Try.prog 76 Gocode_Clone.pk Gocode_Clone.rk Gocode_Clone.g, entry _ Try.prog 35 Gocode_Named.pk Gocode_Named.rk Gocode_Named.g]
theorem Gocode_Labelled.hρ : ∀ e ∈ Gocode_Labelled.ρ, EntryOk Try.prog e :=
  ents_cons (ent (fn := Try.f76) Gocode_Clone.spec (by kernel_rfl) (by kernel_rfl) (by kernel_rfl) (by kernel_rfl)) (ents_cons (ent (fn := Try.f35) Gocode_Named.spec (by kernel_rfl) (by kernel_rfl) (by kernel_rfl) (by kernel_rfl)) (ents_nil))
def Gocode_Labelled.fr122 : Fr := [(1, .bx (.cn (.str) (.cn (.own 47) (.cn (.own 35) (.cn (.own 68) (.cn (.int .i64) (.cn (.int .i64) (.ce)))))))), (2, .bx (.st 26)), (3, .mp 3 3), (12, .al 102), (13, .int .i64), (14, .int .i64)]
def Gocode_Labelled.ou122 : Outs := [(1, [(1, .bx (.cn (.str) (.cn (.own 47) (.cn (.own 35) (.cn (.own 68) (.cn (.int .i64) (.cn (.int .i64) (.ce)))))))), (2, .bx (.st 26)), (3, .mp 3 3)])]
def Gocode_Labelled.T122 (k : Nat) (x : Gocode_Labelled.fr122.T) (κ : Kp (Tp Gocode_Labelled.rk) Gocode_Labelled.ou122) : Option (Tp Gocode_Labelled.rk) := Gocode_Labelled.l122 k x.1 x.2.1 x.2.2.1 x.2.2.2.1 x.2.2.2.2.1 x.2.2.2.2.2 κ.1
def Gocode_Labelled.fr250 : Fr := [(1, .bx (.cn (.str) (.cn (.own 47) (.cn (.own 35) (.cn (.own 68) (.cn (.int .i64) (.cn (.int .i64) (.ce)))))))), (2, .bx (.st 26)), (3, .mp 3 3), (30, .int .i64), (31, .int .i64)]
def Gocode_Labelled.ou250 : Outs := [(3, [(1, .bx (.cn (.str) (.cn (.own 47) (.cn (.own 35) (.cn (.own 68) (.cn (.int .i64) (.cn (.int .i64) (.ce)))))))), (2, .bx (.st 26)), (3, .mp 3 3)])]
def Gocode_Labelled.T250 (k : Nat) (x : Gocode_Labelled.fr250.T) (κ : Kp (Tp Gocode_Labelled.rk) Gocode_Labelled.ou250) : Option (Tp Gocode_Labelled.rk) := Gocode_Labelled.l250 k x.1 x.2.1 x.2.2.1 x.2.2.2.1 x.2.2.2.2 κ.1
def Gocode_Labelled.Λ0 : Cuts (Tp Gocode_Labelled.rk) := cutsOf []
def Gocode_Labelled.Λ1 : Cuts (Tp Gocode_Labelled.rk) := cutsOf [(122, cut Try.prog Gocode_Labelled.fr122 Gocode_Labelled.ou122 (Gocode_Labelled.T122 NN))]
def Gocode_Labelled.Λ : Cuts (Tp Gocode_Labelled.rk) := cutsOf [(250, cut Try.prog Gocode_Labelled.fr250 Gocode_Labelled.ou250 (Gocode_Labelled.T250 NN)), (122, cut Try.prog Gocode_Labelled.fr122 Gocode_Labelled.ou122 (Gocode_Labelled.T122 NN))]
theorem Gocode_Labelled.c122 (A : Nat → Prop) (w0 : World) : CutOk Try.prog ⟨Try.f54.ntmps, A⟩ w0 (kRet Try.prog Try.f54.results.toList Gocode_Labelled.rk) (bodyOf Try.f54) 122 (cut Try.prog Gocode_Labelled.fr122 Gocode_Labelled.ou122 (Gocode_Labelled.T122 NN)) :=
  loop_ok Gocode_Labelled.hρ (Λ := Gocode_Labelled.Λ0) (cuts_nil) (by kernel_rfl) (D := 64) (b := loopOf Try.f54 122) (by kernel_rfl) (by kernel_rfl) NN (fun x κ => by kernel_rfl) (fun k x κ => by kernel_rfl)
theorem Gocode_Labelled.c250 (A : Nat → Prop) (w0 : World) : CutOk Try.prog ⟨Try.f54.ntmps, A⟩ w0 (kRet Try.prog Try.f54.results.toList Gocode_Labelled.rk) (bodyOf Try.f54) 250 (cut Try.prog Gocode_Labelled.fr250 Gocode_Labelled.ou250 (Gocode_Labelled.T250 NN)) :=
  loop_ok Gocode_Labelled.hρ (Λ := Gocode_Labelled.Λ1) (cuts_cons (Gocode_Labelled.c122 A w0) (cuts_nil)) (by kernel_rfl) (D := 64) (b := loopOf Try.f54 250) (by kernel_rfl) (by kernel_rfl) NN (fun x κ => by kernel_rfl) (fun k x κ => by kernel_rfl)
theorem Gocode_Labelled.spec : Spec Try.prog 54 Gocode_Labelled.pk Gocode_Labelled.rk Gocode_Labelled.g :=
  spec_of_body (fn := Try.f54) (c := bodyOf Try.f54) (by kernel_rfl) (by kernel_rfl) (by kernel_rfl) (by kernel_rfl) (ρ := Gocode_Labelled.ρ) Gocode_Labelled.hρ (Λ := Gocode_Labelled.Λ) (fun A w0 => cuts_cons (Gocode_Labelled.c250 A w0) (cuts_cons (Gocode_Labelled.c122 A w0) (cuts_nil))) (fun x => by kernel_rfl)

/-! ### 28 bluebell/ocode.Renumber -/
def Gocode_Renumber.f (a0 : D) : Option ((ByteArray × List D × List D × List D × Int × Int × Unit) × Int) :=
  (Gocode_Check.f a0).bind fun r1 => bif (r1 != 0) then some ((ByteArray.empty, [], [], [], 0, 0, ()), r1) else (Gocode_Labelled.f a0).bind fun r2 => some ((r2.1, r2.2.1, r2.2.2.1, r2.2.2.2.1, r2.2.2.2.2.1, r2.2.2.2.2.2.1, ()), 0)
def Gocode_Renumber.pk : List FK := [.st 26]
def Gocode_Renumber.rk : List FK := [.cn (.str) (.cn (.own 47) (.cn (.own 35) (.cn (.own 68) (.cn (.int .i64) (.cn (.int .i64) (.ce)))))), .int .i64]
def Gocode_Renumber.g : Tp Gocode_Renumber.pk → Option (Tp Gocode_Renumber.rk) := fun x => Gocode_Renumber.f x
def Gocode_Renumber.ρ : List (Entry (Tp Gocode_Renumber.rk)) := [entry _ Try.prog 20 Gocode_Check.pk Gocode_Check.rk Gocode_Check.g, entry _ Try.prog 54 Gocode_Labelled.pk Gocode_Labelled.rk Gocode_Labelled.g]
theorem Gocode_Renumber.hρ : ∀ e ∈ Gocode_Renumber.ρ, EntryOk Try.prog e :=
  ents_cons (ent (fn := Try.f20) Gocode_Check.spec (by kernel_rfl) (by kernel_rfl) (by kernel_rfl) (by kernel_rfl)) (ents_cons (ent (fn := Try.f54) Gocode_Labelled.spec (by kernel_rfl) (by kernel_rfl) (by kernel_rfl) (by kernel_rfl)) (ents_nil))
def Gocode_Renumber.Λ : Cuts (Tp Gocode_Renumber.rk) := cutsOf []
theorem Gocode_Renumber.spec : Spec Try.prog 28 Gocode_Renumber.pk Gocode_Renumber.rk Gocode_Renumber.g :=
  spec_of_body (fn := Try.f28) (c := bodyOf Try.f28) (by kernel_rfl) (by kernel_rfl) (by kernel_rfl) (by kernel_rfl) (ρ := Gocode_Renumber.ρ) Gocode_Renumber.hρ (Λ := Gocode_Renumber.Λ) (fun A w0 => cuts_nil) (fun x => by kernel_rfl)

/-! ### 29 bluebell/bluebellref06.Renumber -/
def Gr06_Renumber.l506 : Nat → D → D → (List D) → Int → Int → ((D × D × List D × Int) → Option ((ByteArray × List D × List D × List D × Int × Int × Unit) × Int)) → Option ((ByteArray × List D × List D × List D × Int × Int × Unit) × Int)
  | 0, _, _, _, _, _, _ => none
  | k + 1, v1, v2, v5, v6, v7, κ1 =>
    bif decide (v7 < (((v1.cell 2).list).length : Int)) then gd (inB v7 ((v1.cell 2).list).length) (bif ((((rd ((v1.cell 2).list) v7.toNat).cell 0).int) == 19) then gd (inB v7 ((v1.cell 2).list).length) (gd (inB (((rd ((v1.cell 2).list) v7.toNat).cell 1).int) v5.length) (gd (Nat.blt (((rd ((v1.cell 2).list) v7.toNat).cell 1).int).toNat v5.length) (Gr06_Renumber.l506 k v1 v2 (v5.set (((rd ((v1.cell 2).list) v7.toNat).cell 1).int).toNat (.i (IntKind.i64.wrap (v6 + 1)))) (IntKind.i64.wrap (v6 + 1)) (IntKind.i64.wrap (v7 + 1)) κ1))) else Gr06_Renumber.l506 k v1 v2 v5 v6 (IntKind.i64.wrap (v7 + 1)) κ1) else κ1 (v1, v2, v5, v6)
def Gr06_Renumber.l4090 : Nat → D → (List D) → ((ByteArray × List D × List D × List D × Int × Int × Unit)) → Int → ((D × (ByteArray × List D × List D × List D × Int × Int × Unit)) → Option ((ByteArray × List D × List D × List D × Int × Int × Unit) × Int)) → Option ((ByteArray × List D × List D × List D × Int × Int × Unit) × Int)
  | 0, _, _, _, _, _ => none
  | k + 1, v2, v5, v8, v9, κ3 =>
    bif decide (v9 < (v8.2.2.1.length : Int)) then gd (inB v9 v8.2.2.1.length) (gd (Nat.blt v9.toNat v8.2.2.1.length) ((Gr06_Label.f (rd v8.2.2.1 v9.toNat)).bind fun r4 => gd (inB v9 v8.2.2.1.length) (gd (Nat.blt v9.toNat v8.2.2.1.length) (bif ((((rd v8.2.2.1 v9.toNat).cell 0).int) == 30) then gd (inB r4 v5.length) (gd (Nat.blt r4.toNat v5.length) (gd (inB v9 v8.2.2.1.length) (gd (Nat.blt v9.toNat v8.2.2.1.length) (Gr06_Renumber.l4090 k v2 v5 (v8.1, v8.2.1, (v8.2.2.1.set v9.toNat (.r [(rd v8.2.2.1 v9.toNat).cell 0, (rd v8.2.2.1 v9.toNat).cell 1, .i ((rd v5 r4.toNat).int)])), v8.2.2.2.1, v8.2.2.2.2.1, v8.2.2.2.2.2.1, ()) (IntKind.i64.wrap (v9 + 1)) κ3)))) else gd ((!(!(decide (r4 > 0)))) || (inB v9 v8.2.2.1.length)) (gd ((!(!(decide (r4 > 0)))) || (Nat.blt v9.toNat v8.2.2.1.length)) (bif ((decide (r4 > 0)) || ((((rd v8.2.2.1 v9.toNat).cell 0).int) == 19)) then gd (inB v9 v8.2.2.1.length) (gd (Nat.blt v9.toNat v8.2.2.1.length) (gd (inB (((rd v8.2.2.1 v9.toNat).cell 1).int) v5.length) (gd (Nat.blt (((rd v8.2.2.1 v9.toNat).cell 1).int).toNat v5.length) (gd (inB v9 v8.2.2.1.length) (gd (Nat.blt v9.toNat v8.2.2.1.length) (Gr06_Renumber.l4090 k v2 v5 (v8.1, v8.2.1, (v8.2.2.1.set v9.toNat (.r [(rd v8.2.2.1 v9.toNat).cell 0, .i ((rd v5 (((rd v8.2.2.1 v9.toNat).cell 1).int).toNat).int), (rd v8.2.2.1 v9.toNat).cell 2])), v8.2.2.2.1, v8.2.2.2.2.1, v8.2.2.2.2.2.1, ()) (IntKind.i64.wrap (v9 + 1)) κ3)))))) else Gr06_Renumber.l4090 k v2 v5 (v8.1, v8.2.1, v8.2.2.1, v8.2.2.2.1, v8.2.2.2.2.1, v8.2.2.2.2.2.1, ()) (IntKind.i64.wrap (v9 + 1)) κ3)))))) else κ3 (v2, (v8.1, v8.2.1, v8.2.2.1, v8.2.2.2.1, v8.2.2.2.2.1, v8.2.2.2.2.2.1, ()))
def Gr06_Renumber.f (a0 : D) : Option ((ByteArray × List D × List D × List D × Int × Int × Unit) × Int) :=
  (Gr06_Check.f a0).bind fun r1 => bif (r1 != 0) then some ((ByteArray.empty, [], [], [], 0, 0, ()), r1) else gd (decide (0 ≤ (IntKind.i64.wrap (((a0.cell 5).int) + 1))) && decide ((IntKind.i64.wrap (((a0.cell 5).int) + 1)) ≤ (lim : Int))) (Gr06_Renumber.l506 NN a0 (.r [.s ByteArray.empty, .l [], .l [], .l [], .i 0, .i 0]) (List.replicate (IntKind.i64.wrap (((a0.cell 5).int) + 1)).toNat (.i 0 : D)) 0 0 (fun y2 => (Gr00_CopyCode.f y2.1).bind fun r3 => Gr06_Renumber.l4090 NN y2.2.1 y2.2.2.1 (r3.1, r3.2.1, r3.2.2.1, r3.2.2.2.1, r3.2.2.2.2.1, y2.2.2.2, ()) 0 (fun y5 => some ((y5.2.1, y5.2.2.1, y5.2.2.2.1, y5.2.2.2.2.1, y5.2.2.2.2.2.1, y5.2.2.2.2.2.2.1, ()), 0))))
def Gr06_Renumber.pk : List FK := [.st 26]
def Gr06_Renumber.rk : List FK := [.cn (.str) (.cn (.own 47) (.cn (.own 35) (.cn (.own 68) (.cn (.int .i64) (.cn (.int .i64) (.ce)))))), .int .i64]
def Gr06_Renumber.g : Tp Gr06_Renumber.pk → Option (Tp Gr06_Renumber.rk) := fun x => Gr06_Renumber.f x
def Gr06_Renumber.ρ : List (Entry (Tp Gr06_Renumber.rk)) := [entry _ Try.prog 22 Gr06_Check.pk Gr06_Check.rk Gr06_Check.g, entry _ Try.prog 38 Gr00_CopyCode.pk Gr00_CopyCode.rk Gr00_CopyCode.g, entry _ Try.prog 15 Gr06_Label.pk Gr06_Label.rk Gr06_Label.g]
theorem Gr06_Renumber.hρ : ∀ e ∈ Gr06_Renumber.ρ, EntryOk Try.prog e :=
  ents_cons (ent (fn := Try.f22) Gr06_Check.spec (by kernel_rfl) (by kernel_rfl) (by kernel_rfl) (by kernel_rfl)) (ents_cons (ent (fn := Try.f38) Gr00_CopyCode.spec (by kernel_rfl) (by kernel_rfl) (by kernel_rfl) (by kernel_rfl)) (ents_cons (ent (fn := Try.f15) Gr06_Label.spec (by kernel_rfl) (by kernel_rfl) (by kernel_rfl) (by kernel_rfl)) (ents_nil)))
def Gr06_Renumber.fr506 : Fr := [(1, .bx (.st 26)), (2, .bx (.st 26)), (5, .own 3), (6, .int .i64), (7, .int .i64)]
def Gr06_Renumber.ou506 : Outs := [(1, [(1, .bx (.st 26)), (2, .bx (.st 26)), (5, .own 3), (6, .int .i64)])]
def Gr06_Renumber.T506 (k : Nat) (x : Gr06_Renumber.fr506.T) (κ : Kp (Tp Gr06_Renumber.rk) Gr06_Renumber.ou506) : Option (Tp Gr06_Renumber.rk) := Gr06_Renumber.l506 k x.1 x.2.1 x.2.2.1 x.2.2.2.1 x.2.2.2.2 κ.1
def Gr06_Renumber.fr4090 : Fr := [(2, .bx (.st 26)), (5, .own 3), (8, .bx (.cn (.str) (.cn (.own 47) (.cn (.own 35) (.cn (.own 68) (.cn (.int .i64) (.cn (.int .i64) (.ce)))))))), (9, .int .i64)]
def Gr06_Renumber.ou4090 : Outs := [(3, [(2, .bx (.st 26)), (8, .bx (.cn (.str) (.cn (.own 47) (.cn (.own 35) (.cn (.own 68) (.cn (.int .i64) (.cn (.int .i64) (.ce))))))))])]
def Gr06_Renumber.T4090 (k : Nat) (x : Gr06_Renumber.fr4090.T) (κ : Kp (Tp Gr06_Renumber.rk) Gr06_Renumber.ou4090) : Option (Tp Gr06_Renumber.rk) := Gr06_Renumber.l4090 k x.1 x.2.1 x.2.2.1 x.2.2.2 κ.1
def Gr06_Renumber.Λ0 : Cuts (Tp Gr06_Renumber.rk) := cutsOf []
def Gr06_Renumber.Λ1 : Cuts (Tp Gr06_Renumber.rk) := cutsOf [(506, cut Try.prog Gr06_Renumber.fr506 Gr06_Renumber.ou506 (Gr06_Renumber.T506 NN))]
def Gr06_Renumber.Λ : Cuts (Tp Gr06_Renumber.rk) := cutsOf [(4090, cut Try.prog Gr06_Renumber.fr4090 Gr06_Renumber.ou4090 (Gr06_Renumber.T4090 NN)), (506, cut Try.prog Gr06_Renumber.fr506 Gr06_Renumber.ou506 (Gr06_Renumber.T506 NN))]
theorem Gr06_Renumber.c506 (A : Nat → Prop) (w0 : World) : CutOk Try.prog ⟨Try.f29.ntmps, A⟩ w0 (kRet Try.prog Try.f29.results.toList Gr06_Renumber.rk) (bodyOf Try.f29) 506 (cut Try.prog Gr06_Renumber.fr506 Gr06_Renumber.ou506 (Gr06_Renumber.T506 NN)) :=
  loop_ok Gr06_Renumber.hρ (Λ := Gr06_Renumber.Λ0) (cuts_nil) (by kernel_rfl) (D := 64) (b := loopOf Try.f29 506) (by kernel_rfl) (by kernel_rfl) NN (fun x κ => by kernel_rfl) (fun k x κ => by kernel_rfl)
theorem Gr06_Renumber.c4090 (A : Nat → Prop) (w0 : World) : CutOk Try.prog ⟨Try.f29.ntmps, A⟩ w0 (kRet Try.prog Try.f29.results.toList Gr06_Renumber.rk) (bodyOf Try.f29) 4090 (cut Try.prog Gr06_Renumber.fr4090 Gr06_Renumber.ou4090 (Gr06_Renumber.T4090 NN)) :=
  loop_ok Gr06_Renumber.hρ (Λ := Gr06_Renumber.Λ1) (cuts_cons (Gr06_Renumber.c506 A w0) (cuts_nil)) (by kernel_rfl) (D := 64) (b := loopOf Try.f29 4090) (by kernel_rfl) (by kernel_rfl) NN (fun x κ => by kernel_rfl) (fun k x κ => by kernel_rfl)
theorem Gr06_Renumber.spec : Spec Try.prog 29 Gr06_Renumber.pk Gr06_Renumber.rk Gr06_Renumber.g :=
  spec_of_body (fn := Try.f29) (c := bodyOf Try.f29) (by kernel_rfl) (by kernel_rfl) (by kernel_rfl) (by kernel_rfl) (ρ := Gr06_Renumber.ρ) Gr06_Renumber.hρ (Λ := Gr06_Renumber.Λ) (fun A w0 => cuts_cons (Gr06_Renumber.c4090 A w0) (cuts_cons (Gr06_Renumber.c506 A w0) (cuts_nil))) (fun x => by kernel_rfl)

/-! ### 53 bluebell/bluebellref00.EqOps -/
def Gr00_EqOps.l58 : Nat → (List D) → (List D) → Int → (Unit → Option Bool) → Option Bool
  | 0, _, _, _, _ => none
  | k + 1, v0, v1, v5, κ1 =>
    bif decide (v5 < (v0.length : Int)) then gd (inB v5 v0.length) (gd (inB v5 v1.length) (bif (!(((((rd v0 v5.toNat).cell 0).int) == (((rd v1 v5.toNat).cell 0).int)) && (((((rd v0 v5.toNat).cell 1).int) == (((rd v1 v5.toNat).cell 1).int)) && (((((rd v0 v5.toNat).cell 2).int) == (((rd v1 v5.toNat).cell 2).int)) && true)))) then some false else Gr00_EqOps.l58 k v0 v1 (IntKind.i64.wrap (v5 + 1)) κ1)) else κ1 ()
def Gr00_EqOps.f (a0 : List D) (a1 : List D) : Option Bool :=
  bif ((a0.length : Int) != (a1.length : Int)) then some false else Gr00_EqOps.l58 NN a0 a1 0 (fun y1 => some true)
def Gr00_EqOps.pk : List FK := [.sl 35, .sl 35]
def Gr00_EqOps.rk : List FK := [.bool]
def Gr00_EqOps.g : Tp Gr00_EqOps.pk → Option (Tp Gr00_EqOps.rk) := fun x => Gr00_EqOps.f x.1 x.2
def Gr00_EqOps.ρ : List (Entry (Tp Gr00_EqOps.rk)) := []
theorem Gr00_EqOps.hρ : ∀ e ∈ Gr00_EqOps.ρ, EntryOk Try.prog e :=
  ents_nil
def Gr00_EqOps.fr58 : Fr := [(0, .sl 35), (1, .sl 35), (5, .int .i64)]
def Gr00_EqOps.ou58 : Outs := [(1, [])]
def Gr00_EqOps.T58 (k : Nat) (x : Gr00_EqOps.fr58.T) (κ : Kp (Tp Gr00_EqOps.rk) Gr00_EqOps.ou58) : Option (Tp Gr00_EqOps.rk) := Gr00_EqOps.l58 k x.1 x.2.1 x.2.2 κ.1
def Gr00_EqOps.Λ0 : Cuts (Tp Gr00_EqOps.rk) := cutsOf []
def Gr00_EqOps.Λ : Cuts (Tp Gr00_EqOps.rk) := cutsOf [(58, cut Try.prog Gr00_EqOps.fr58 Gr00_EqOps.ou58 (Gr00_EqOps.T58 NN))]
theorem Gr00_EqOps.c58 (A : Nat → Prop) (w0 : World) : CutOk Try.prog ⟨Try.f53.ntmps, A⟩ w0 (kRet Try.prog Try.f53.results.toList Gr00_EqOps.rk) (bodyOf Try.f53) 58 (cut Try.prog Gr00_EqOps.fr58 Gr00_EqOps.ou58 (Gr00_EqOps.T58 NN)) :=
  loop_ok Gr00_EqOps.hρ (Λ := Gr00_EqOps.Λ0) (cuts_nil) (by kernel_rfl) (D := 64) (b := loopOf Try.f53 58) (by kernel_rfl) (by kernel_rfl) NN (fun x κ => by kernel_rfl) (fun k x κ => by kernel_rfl)
theorem Gr00_EqOps.spec : Spec Try.prog 53 Gr00_EqOps.pk Gr00_EqOps.rk Gr00_EqOps.g :=
  spec_of_body (fn := Try.f53) (c := bodyOf Try.f53) (by kernel_rfl) (by kernel_rfl) (by kernel_rfl) (by kernel_rfl) (ρ := Gr00_EqOps.ρ) Gr00_EqOps.hρ (Λ := Gr00_EqOps.Λ) (fun A w0 => cuts_cons (Gr00_EqOps.c58 A w0) (cuts_nil)) (fun x => by kernel_rfl)

/-! ### 24 bluebell/bluebellref00.EqCode -/
def Gr00_EqCode.l58 : Nat → D → D → Int → ((D × D) → Option Bool) → Option Bool
  | 0, _, _, _, _ => none
  | k + 1, v2, v3, v5, κ1 =>
    bif decide (v5 < (((v2.cell 1).list).length : Int)) then gd (inB v5 ((v2.cell 1).list).length) (gd (inB v5 ((v3.cell 1).list).length) (gd ((!(!(!((((rd ((v2.cell 1).list) v5.toNat).cell 0).str).toList == (((rd ((v3.cell 1).list) v5.toNat).cell 0).str).toList)))) || (inB v5 ((v2.cell 1).list).length)) (gd ((!(!(!((((rd ((v2.cell 1).list) v5.toNat).cell 0).str).toList == (((rd ((v3.cell 1).list) v5.toNat).cell 0).str).toList)))) || (inB v5 ((v3.cell 1).list).length)) (gd ((!(!((!((((rd ((v2.cell 1).list) v5.toNat).cell 0).str).toList == (((rd ((v3.cell 1).list) v5.toNat).cell 0).str).toList)) || (!((((rd ((v2.cell 1).list) v5.toNat).cell 1).bool) == (((rd ((v3.cell 1).list) v5.toNat).cell 1).bool)))))) || (inB v5 ((v2.cell 1).list).length)) (gd ((!(!((!((((rd ((v2.cell 1).list) v5.toNat).cell 0).str).toList == (((rd ((v3.cell 1).list) v5.toNat).cell 0).str).toList)) || (!((((rd ((v2.cell 1).list) v5.toNat).cell 1).bool) == (((rd ((v3.cell 1).list) v5.toNat).cell 1).bool)))))) || (inB v5 ((v3.cell 1).list).length)) ((bif (!((!((((rd ((v2.cell 1).list) v5.toNat).cell 0).str).toList == (((rd ((v3.cell 1).list) v5.toNat).cell 0).str).toList)) || (!((((rd ((v2.cell 1).list) v5.toNat).cell 1).bool) == (((rd ((v3.cell 1).list) v5.toNat).cell 1).bool))))) then Gr00_EqInts.f (((rd ((v2.cell 1).list) v5.toNat).cell 2).list) (((rd ((v3.cell 1).list) v5.toNat).cell 2).list) else some false).bind fun r1 => bif (((!((((rd ((v2.cell 1).list) v5.toNat).cell 0).str).toList == (((rd ((v3.cell 1).list) v5.toNat).cell 0).str).toList)) || (!((((rd ((v2.cell 1).list) v5.toNat).cell 1).bool) == (((rd ((v3.cell 1).list) v5.toNat).cell 1).bool)))) || (!r1)) then some false else Gr00_EqCode.l58 k v2 v3 (IntKind.i64.wrap (v5 + 1)) κ1)))))) else κ1 (v2, v3)
def Gr00_EqCode.l122 : Nat → D → D → Int → ((D × D) → Option Bool) → Option Bool
  | 0, _, _, _, _ => none
  | k + 1, v2, v3, v6, κ3 =>
    bif decide (v6 < (((v2.cell 3).list).length : Int)) then gd (inB v6 ((v2.cell 3).list).length) (gd (inB v6 ((v3.cell 3).list).length) (bif (!(((((rd ((v2.cell 3).list) v6.toNat).cell 0).int) == (((rd ((v3.cell 3).list) v6.toNat).cell 0).int)) && (((((rd ((v2.cell 3).list) v6.toNat).cell 1).int) == (((rd ((v3.cell 3).list) v6.toNat).cell 1).int)) && true))) then some false else Gr00_EqCode.l122 k v2 v3 (IntKind.i64.wrap (v6 + 1)) κ3)) else κ3 (v2, v3)
def Gr00_EqCode.f (a0 : D) (a1 : D) : Option Bool :=
  bif (((((!(((a0.cell 0).str).toList == ((a1.cell 0).str).toList)) || (((a0.cell 4).int) != ((a1.cell 4).int))) || (((a0.cell 5).int) != ((a1.cell 5).int))) || ((((a0.cell 1).list).length : Int) != (((a1.cell 1).list).length : Int))) || ((((a0.cell 3).list).length : Int) != (((a1.cell 3).list).length : Int))) then some false else Gr00_EqCode.l58 NN a0 a1 0 (fun y2 => Gr00_EqCode.l122 NN y2.1 y2.2 0 (fun y3 => (Gr00_EqOps.f ((y3.1.cell 2).list) ((y3.2.cell 2).list)).bind fun r4 => some r4))
def Gr00_EqCode.pk : List FK := [.st 26, .st 26]
def Gr00_EqCode.rk : List FK := [.bool]
def Gr00_EqCode.g : Tp Gr00_EqCode.pk → Option (Tp Gr00_EqCode.rk) := fun x => Gr00_EqCode.f x.1 x.2
def Gr00_EqCode.ρ : List (Entry (Tp Gr00_EqCode.rk)) := [entry _ Try.prog 19 Gr00_EqInts.pk Gr00_EqInts.rk Gr00_EqInts.g, entry _ Try.prog 53 Gr00_EqOps.pk Gr00_EqOps.rk Gr00_EqOps.g]
theorem Gr00_EqCode.hρ : ∀ e ∈ Gr00_EqCode.ρ, EntryOk Try.prog e :=
  ents_cons (ent (fn := Try.f19) Gr00_EqInts.spec (by kernel_rfl) (by kernel_rfl) (by kernel_rfl) (by kernel_rfl)) (ents_cons (ent (fn := Try.f53) Gr00_EqOps.spec (by kernel_rfl) (by kernel_rfl) (by kernel_rfl) (by kernel_rfl)) (ents_nil))
def Gr00_EqCode.fr58 : Fr := [(2, .bx (.st 26)), (3, .bx (.st 26)), (5, .int .i64)]
def Gr00_EqCode.ou58 : Outs := [(1, [(2, .bx (.st 26)), (3, .bx (.st 26))])]
def Gr00_EqCode.T58 (k : Nat) (x : Gr00_EqCode.fr58.T) (κ : Kp (Tp Gr00_EqCode.rk) Gr00_EqCode.ou58) : Option (Tp Gr00_EqCode.rk) := Gr00_EqCode.l58 k x.1 x.2.1 x.2.2 κ.1
def Gr00_EqCode.fr122 : Fr := [(2, .bx (.st 26)), (3, .bx (.st 26)), (6, .int .i64)]
def Gr00_EqCode.ou122 : Outs := [(3, [(2, .bx (.st 26)), (3, .bx (.st 26))])]
def Gr00_EqCode.T122 (k : Nat) (x : Gr00_EqCode.fr122.T) (κ : Kp (Tp Gr00_EqCode.rk) Gr00_EqCode.ou122) : Option (Tp Gr00_EqCode.rk) := Gr00_EqCode.l122 k x.1 x.2.1 x.2.2 κ.1
def Gr00_EqCode.Λ0 : Cuts (Tp Gr00_EqCode.rk) := cutsOf []
def Gr00_EqCode.Λ1 : Cuts (Tp Gr00_EqCode.rk) := cutsOf [(58, cut Try.prog Gr00_EqCode.fr58 Gr00_EqCode.ou58 (Gr00_EqCode.T58 NN))]
def Gr00_EqCode.Λ : Cuts (Tp Gr00_EqCode.rk) := cutsOf [(122, cut Try.prog Gr00_EqCode.fr122 Gr00_EqCode.ou122 (Gr00_EqCode.T122 NN)), (58, cut Try.prog Gr00_EqCode.fr58 Gr00_EqCode.ou58 (Gr00_EqCode.T58 NN))]
theorem Gr00_EqCode.c58 (A : Nat → Prop) (w0 : World) : CutOk Try.prog ⟨Try.f24.ntmps, A⟩ w0 (kRet Try.prog Try.f24.results.toList Gr00_EqCode.rk) (bodyOf Try.f24) 58 (cut Try.prog Gr00_EqCode.fr58 Gr00_EqCode.ou58 (Gr00_EqCode.T58 NN)) :=
  loop_ok Gr00_EqCode.hρ (Λ := Gr00_EqCode.Λ0) (cuts_nil) (by kernel_rfl) (D := 64) (b := loopOf Try.f24 58) (by kernel_rfl) (by kernel_rfl) NN (fun x κ => by kernel_rfl) (fun k x κ => by kernel_rfl)
theorem Gr00_EqCode.c122 (A : Nat → Prop) (w0 : World) : CutOk Try.prog ⟨Try.f24.ntmps, A⟩ w0 (kRet Try.prog Try.f24.results.toList Gr00_EqCode.rk) (bodyOf Try.f24) 122 (cut Try.prog Gr00_EqCode.fr122 Gr00_EqCode.ou122 (Gr00_EqCode.T122 NN)) :=
  loop_ok Gr00_EqCode.hρ (Λ := Gr00_EqCode.Λ1) (cuts_cons (Gr00_EqCode.c58 A w0) (cuts_nil)) (by kernel_rfl) (D := 64) (b := loopOf Try.f24 122) (by kernel_rfl) (by kernel_rfl) NN (fun x κ => by kernel_rfl) (fun k x κ => by kernel_rfl)
theorem Gr00_EqCode.spec : Spec Try.prog 24 Gr00_EqCode.pk Gr00_EqCode.rk Gr00_EqCode.g :=
  spec_of_body (fn := Try.f24) (c := bodyOf Try.f24) (by kernel_rfl) (by kernel_rfl) (by kernel_rfl) (by kernel_rfl) (ρ := Gr00_EqCode.ρ) Gr00_EqCode.hρ (Λ := Gr00_EqCode.Λ) (fun A w0 => cuts_cons (Gr00_EqCode.c122 A w0) (cuts_cons (Gr00_EqCode.c58 A w0) (cuts_nil))) (fun x => by kernel_rfl)

/-! ### 9 bluebell/bluebelllaw06.OcodeNumbers -/
def Gw06_OcodeNumbers.f (a0 : D) : Option Bool :=
  (Gw06_heavy.f a0).bind fun r1 => bif r1 then (Gw06_awake.f).bind fun r2 => some r2 else (Gocode_Renumber.f a0).bind fun r3 => (Gr06_Renumber.f a0).bind fun r4 => (Gr00_EqCode.f (.r [.s r3.1.1, .l r3.1.2.1, .l r3.1.2.2.1, .l r3.1.2.2.2.1, .i r3.1.2.2.2.2.1, .i r3.1.2.2.2.2.2.1]) (.r [.s r4.1.1, .l r4.1.2.1, .l r4.1.2.2.1, .l r4.1.2.2.2.1, .i r4.1.2.2.2.2.1, .i r4.1.2.2.2.2.2.1])).bind fun r5 => (bif (r5 && (r3.2 == r4.2)) then Gw06_awake.f else some false).bind fun r6 => some ((r5 && (r3.2 == r4.2)) && r6)
def Gw06_OcodeNumbers.pk : List FK := [.st 26]
def Gw06_OcodeNumbers.rk : List FK := [.bool]
def Gw06_OcodeNumbers.g : Tp Gw06_OcodeNumbers.pk → Option (Tp Gw06_OcodeNumbers.rk) := fun x => Gw06_OcodeNumbers.f x
def Gw06_OcodeNumbers.ρ : List (Entry (Tp Gw06_OcodeNumbers.rk)) := [entry _ Try.prog 12 Gw06_heavy.pk Gw06_heavy.rk Gw06_heavy.g, entry _ Try.prog 13 Gw06_awake.pk Gw06_awake.rk Gw06_awake.g, entry _ Try.prog 28 Gocode_Renumber.pk Gocode_Renumber.rk Gocode_Renumber.g, entry _ Try.prog 29 Gr06_Renumber.pk Gr06_Renumber.rk Gr06_Renumber.g, entry _ Try.prog 24 Gr00_EqCode.pk Gr00_EqCode.rk Gr00_EqCode.g]
theorem Gw06_OcodeNumbers.hρ : ∀ e ∈ Gw06_OcodeNumbers.ρ, EntryOk Try.prog e :=
  ents_cons (ent (fn := Try.f12) Gw06_heavy.spec (by kernel_rfl) (by kernel_rfl) (by kernel_rfl) (by kernel_rfl)) (ents_cons (ent (fn := Try.f13) Gw06_awake.spec (by kernel_rfl) (by kernel_rfl) (by kernel_rfl) (by kernel_rfl)) (ents_cons (ent (fn := Try.f28) Gocode_Renumber.spec (by kernel_rfl) (by kernel_rfl) (by kernel_rfl) (by kernel_rfl)) (ents_cons (ent (fn := Try.f29) Gr06_Renumber.spec (by kernel_rfl) (by kernel_rfl) (by kernel_rfl) (by kernel_rfl)) (ents_cons (ent (fn := Try.f24) Gr00_EqCode.spec (by kernel_rfl) (by kernel_rfl) (by kernel_rfl) (by kernel_rfl)) (ents_nil)))))
def Gw06_OcodeNumbers.Λ : Cuts (Tp Gw06_OcodeNumbers.rk) := cutsOf []
theorem Gw06_OcodeNumbers.spec : Spec Try.prog 9 Gw06_OcodeNumbers.pk Gw06_OcodeNumbers.rk Gw06_OcodeNumbers.g :=
  spec_of_body (fn := Try.f9) (c := bodyOf Try.f9) (by kernel_rfl) (by kernel_rfl) (by kernel_rfl) (by kernel_rfl) (ρ := Gw06_OcodeNumbers.ρ) Gw06_OcodeNumbers.hρ (Λ := Gw06_OcodeNumbers.Λ) (fun A w0 => cuts_nil) (fun x => by kernel_rfl)

/-! ### 77 bluebell/word.sized -/
def Gword_sized.f (a0 : Int) : Option Bool :=
  some (((a0 == 16) || (a0 == 24)) || (a0 == 32))
def Gword_sized.pk : List FK := [.int .i64]
def Gword_sized.rk : List FK := [.bool]
def Gword_sized.g : Tp Gword_sized.pk → Option (Tp Gword_sized.rk) := fun x => Gword_sized.f x
def Gword_sized.ρ : List (Entry (Tp Gword_sized.rk)) := []
theorem Gword_sized.hρ : ∀ e ∈ Gword_sized.ρ, EntryOk Try.prog e :=
  ents_nil
def Gword_sized.Λ : Cuts (Tp Gword_sized.rk) := cutsOf []
theorem Gword_sized.spec : Spec Try.prog 77 Gword_sized.pk Gword_sized.rk Gword_sized.g :=
  spec_of_body (fn := Try.f77) (c := bodyOf Try.f77) (by kernel_rfl) (by kernel_rfl) (by kernel_rfl) (by kernel_rfl) (ρ := Gword_sized.ρ) Gword_sized.hρ (Λ := Gword_sized.Λ) (fun A w0 => cuts_nil) (fun x => by kernel_rfl)

/-! ### 55 bluebell/word.Valid -/
def Gword_Valid.f (a0 : D) : Option Bool :=
  (Gword_sized.f ((a0.cell 0).int)).bind fun r1 => some r1
def Gword_Valid.pk : List FK := [.st 45]
def Gword_Valid.rk : List FK := [.bool]
def Gword_Valid.g : Tp Gword_Valid.pk → Option (Tp Gword_Valid.rk) := fun x => Gword_Valid.f x
def Gword_Valid.ρ : List (Entry (Tp Gword_Valid.rk)) := [entry _ Try.prog 77 Gword_sized.pk Gword_sized.rk Gword_sized.g]
theorem Gword_Valid.hρ : ∀ e ∈ Gword_Valid.ρ, EntryOk Try.prog e :=
  ents_cons (ent (fn := Try.f77) Gword_sized.spec (by kernel_rfl) (by kernel_rfl) (by kernel_rfl) (by kernel_rfl)) (ents_nil)
def Gword_Valid.Λ : Cuts (Tp Gword_Valid.rk) := cutsOf []
theorem Gword_Valid.spec : Spec Try.prog 55 Gword_Valid.pk Gword_Valid.rk Gword_Valid.g :=
  spec_of_body (fn := Try.f55) (c := bodyOf Try.f55) (by kernel_rfl) (by kernel_rfl) (by kernel_rfl) (by kernel_rfl) (ρ := Gword_Valid.ρ) Gword_Valid.hρ (Λ := Gword_Valid.Λ) (fun A w0 => cuts_nil) (fun x => by kernel_rfl)

/-! ### 100 bluebell/word.shift -/
def Gword_shift.f (a0 : Int) (a1 : D) : Option Int :=
  gd (!(8 == 0)) (bif (a1.cell 1).bool then gd (!((IntKind.i64.wrap (((a1.cell 0).int).tdiv 8)) == 0)) (some (IntKind.i64.wrap (8 * (IntKind.i64.wrap ((IntKind.i64.wrap ((IntKind.i64.wrap (((a1.cell 0).int).tdiv 8)) - 1)) - (a0.tmod (IntKind.i64.wrap (((a1.cell 0).int).tdiv 8)))))))) else gd (!((IntKind.i64.wrap (((a1.cell 0).int).tdiv 8)) == 0)) (some (IntKind.i64.wrap (8 * (a0.tmod (IntKind.i64.wrap (((a1.cell 0).int).tdiv 8)))))))
def Gword_shift.pk : List FK := [.int .i64, .st 45]
def Gword_shift.rk : List FK := [.int .i64]
def Gword_shift.g : Tp Gword_shift.pk → Option (Tp Gword_shift.rk) := fun x => Gword_shift.f x.1 x.2
def Gword_shift.ρ : List (Entry (Tp Gword_shift.rk)) := []
theorem Gword_shift.hρ : ∀ e ∈ Gword_shift.ρ, EntryOk Try.prog e :=
  ents_nil
def Gword_shift.Λ : Cuts (Tp Gword_shift.rk) := cutsOf []
theorem Gword_shift.spec : Spec Try.prog 100 Gword_shift.pk Gword_shift.rk Gword_shift.g :=
  spec_of_body (fn := Try.f100) (c := bodyOf Try.f100) (by kernel_rfl) (by kernel_rfl) (by kernel_rfl) (by kernel_rfl) (ρ := Gword_shift.ρ) Gword_shift.hρ (Λ := Gword_shift.Λ) (fun A w0 => cuts_nil) (fun x => by kernel_rfl)

/-! ### 80 bluebell/word.norm -/
def Gword_norm.f (a0 : Int) (a1 : Int) : Option Int :=
  gd (decide (0 ≤ (IntKind.i64.wrap (64 - a1)))) (gd (decide (0 ≤ (IntKind.i64.wrap (64 - a1)))) (some ((IntKind.i64.wrap (a0 * 2 ^ (min ((IntKind.i64.wrap (64 - a1))).toNat (IntKind.i64).bits))).fdiv (2 ^ (min ((IntKind.i64.wrap (64 - a1))).toNat (IntKind.i64).bits)))))
def Gword_norm.pk : List FK := [.int .i64, .int .i64]
def Gword_norm.rk : List FK := [.int .i64]
def Gword_norm.g : Tp Gword_norm.pk → Option (Tp Gword_norm.rk) := fun x => Gword_norm.f x.1 x.2
def Gword_norm.ρ : List (Entry (Tp Gword_norm.rk)) := []
theorem Gword_norm.hρ : ∀ e ∈ Gword_norm.ρ, EntryOk Try.prog e :=
  ents_nil
def Gword_norm.Λ : Cuts (Tp Gword_norm.rk) := cutsOf []
theorem Gword_norm.spec : Spec Try.prog 80 Gword_norm.pk Gword_norm.rk Gword_norm.g :=
  spec_of_body (fn := Try.f80) (c := bodyOf Try.f80) (by kernel_rfl) (by kernel_rfl) (by kernel_rfl) (by kernel_rfl) (ρ := Gword_norm.ρ) Gword_norm.hρ (Λ := Gword_norm.Λ) (fun A w0 => cuts_nil) (fun x => by kernel_rfl)

/-! ### 95 bluebell/word.With -/
def Gword_With.f (a0 : Int) (a1 : Int) (a2 : Int) (a3 : D) : Option Int :=
  (Gword_shift.f a1 a3).bind fun r1 => gd (decide (0 ≤ r1)) (gd (decide (0 ≤ r1)) ((Gword_norm.f (IntKind.i64.wrap ((BitVec.ofInt (IntKind.i64).bits (IntKind.i64.wrap ((BitVec.ofInt (IntKind.i64).bits a0 &&& ~~~ BitVec.ofInt (IntKind.i64).bits (IntKind.i64.wrap ((255 : Int) * 2 ^ (min (r1).toNat (IntKind.i64).bits)))).toNat : Int)) ||| BitVec.ofInt (IntKind.i64).bits (IntKind.i64.wrap ((IntKind.i64.wrap ((BitVec.ofInt (IntKind.i64).bits a2 &&& BitVec.ofInt (IntKind.i64).bits 255).toNat : Int)) * 2 ^ (min (r1).toNat (IntKind.i64).bits)))).toNat : Int)) ((a3.cell 0).int)).bind fun r2 => some r2))
def Gword_With.pk : List FK := [.int .i64, .int .i64, .int .i64, .st 45]
def Gword_With.rk : List FK := [.int .i64]
def Gword_With.g : Tp Gword_With.pk → Option (Tp Gword_With.rk) := fun x => Gword_With.f x.1 x.2.1 x.2.2.1 x.2.2.2
def Gword_With.ρ : List (Entry (Tp Gword_With.rk)) := [entry _ Try.prog 100 Gword_shift.pk Gword_shift.rk Gword_shift.g, entry _ Try.prog 80 Gword_norm.pk Gword_norm.rk Gword_norm.g]
theorem Gword_With.hρ : ∀ e ∈ Gword_With.ρ, EntryOk Try.prog e :=
  ents_cons (ent (fn := Try.f100) Gword_shift.spec (by kernel_rfl) (by kernel_rfl) (by kernel_rfl) (by kernel_rfl)) (ents_cons (ent (fn := Try.f80) Gword_norm.spec (by kernel_rfl) (by kernel_rfl) (by kernel_rfl) (by kernel_rfl)) (ents_nil))
def Gword_With.Λ : Cuts (Tp Gword_With.rk) := cutsOf []
theorem Gword_With.spec : Spec Try.prog 95 Gword_With.pk Gword_With.rk Gword_With.g :=
  spec_of_body (fn := Try.f95) (c := bodyOf Try.f95) (by kernel_rfl) (by kernel_rfl) (by kernel_rfl) (by kernel_rfl) (ρ := Gword_With.ρ) Gword_With.hρ (Λ := Gword_With.Λ) (fun A w0 => cuts_nil) (fun x => by kernel_rfl)

/-! ### 79 bluebell/word.Words -/
def Gword_Words.l250 : Nat → D → Int → (List D) → (List D) → Int → Int → (List D → Option (List D × Int)) → Option (List D × Int)
  | 0, _, _, _, _, _, _, _ => none
  | k + 1, v3, v6, v7, v30, v31, v32, κ1 =>
    bif decide (v32 < v31) then gd (inB v32 v30.length) (gd (!(v6 == 0)) (gd (!(v6 == 0)) (gd (inB (IntKind.i64.wrap (v32.tdiv v6)) v7.length) (gd (Nat.blt (IntKind.i64.wrap (v32.tdiv v6)).toNat v7.length) (gd (!(v6 == 0)) ((Gword_With.f ((rd v7 (IntKind.i64.wrap (v32.tdiv v6)).toNat).int) (v32.tmod v6) (IntKind.i64.wrap ((rd v30 v32.toNat).int)) v3).bind fun r2 => gd (inB (IntKind.i64.wrap (v32.tdiv v6)) v7.length) (gd (Nat.blt (IntKind.i64.wrap (v32.tdiv v6)).toNat v7.length) (Gword_Words.l250 k v3 v6 (v7.set (IntKind.i64.wrap (v32.tdiv v6)).toNat (.i r2)) v30 v31 (IntKind.i64.wrap (v32 + 1)) κ1)))))))) else κ1 v7
def Gword_Words.f (a0 : List D) (a1 : D) : Option (List D × Int) :=
  (Gword_Valid.f a1).bind fun r1 => gd ((!(!(!r1))) || (!(8 == 0))) (gd ((!(!(!r1))) || (!((IntKind.i64.wrap (((a1.cell 0).int).tdiv 8)) == 0))) (bif ((!r1) || (((a0.length : Int).tmod (IntKind.i64.wrap (((a1.cell 0).int).tdiv 8))) != 0)) then some ([], 3) else gd (!(8 == 0)) (gd (!((IntKind.i64.wrap (((a1.cell 0).int).tdiv 8)) == 0)) (gd (decide (0 ≤ (IntKind.i64.wrap ((a0.length : Int).tdiv (IntKind.i64.wrap (((a1.cell 0).int).tdiv 8))))) && decide ((IntKind.i64.wrap ((a0.length : Int).tdiv (IntKind.i64.wrap (((a1.cell 0).int).tdiv 8)))) ≤ (lim : Int))) (Gword_Words.l250 NN a1 (IntKind.i64.wrap (((a1.cell 0).int).tdiv 8)) (List.replicate (IntKind.i64.wrap ((a0.length : Int).tdiv (IntKind.i64.wrap (((a1.cell 0).int).tdiv 8)))).toNat (.i 0 : D)) a0 (a0.length : Int) 0 (fun y3 => some (y3, 0)))))))
def Gword_Words.pk : List FK := [.sl 5, .st 45]
def Gword_Words.rk : List FK := [.own 3, .int .i64]
def Gword_Words.g : Tp Gword_Words.pk → Option (Tp Gword_Words.rk) := fun x => Gword_Words.f x.1 x.2
def Gword_Words.ρ : List (Entry (Tp Gword_Words.rk)) := [entry _ Try.prog 55 Gword_Valid.pk Gword_Valid.rk Gword_Valid.g, entry _ Try.prog 95 Gword_With.pk Gword_With.rk Gword_With.g]
theorem Gword_Words.hρ : ∀ e ∈ Gword_Words.ρ, EntryOk Try.prog e :=
  ents_cons (ent (fn := Try.f55) Gword_Valid.spec (by kernel_rfl) (by kernel_rfl) (by kernel_rfl) (by kernel_rfl)) (ents_cons (ent (fn := Try.f95) Gword_With.spec (by kernel_rfl) (by kernel_rfl) (by kernel_rfl) (by kernel_rfl)) (ents_nil))
def Gword_Words.fr250 : Fr := [(3, .bx (.st 45)), (6, .int .i64), (7, .own 3), (30, .sl 5), (31, .int .i64), (32, .int .i64)]
def Gword_Words.ou250 : Outs := [(1, [(7, .own 3)])]
def Gword_Words.T250 (k : Nat) (x : Gword_Words.fr250.T) (κ : Kp (Tp Gword_Words.rk) Gword_Words.ou250) : Option (Tp Gword_Words.rk) := Gword_Words.l250 k x.1 x.2.1 x.2.2.1 x.2.2.2.1 x.2.2.2.2.1 x.2.2.2.2.2 κ.1
def Gword_Words.Λ0 : Cuts (Tp Gword_Words.rk) := cutsOf []
def Gword_Words.Λ : Cuts (Tp Gword_Words.rk) := cutsOf [(250, cut Try.prog Gword_Words.fr250 Gword_Words.ou250 (Gword_Words.T250 NN))]
theorem Gword_Words.c250 (A : Nat → Prop) (w0 : World) : CutOk Try.prog ⟨Try.f79.ntmps, A⟩ w0 (kRet Try.prog Try.f79.results.toList Gword_Words.rk) (bodyOf Try.f79) 250 (cut Try.prog Gword_Words.fr250 Gword_Words.ou250 (Gword_Words.T250 NN)) :=
  loop_ok Gword_Words.hρ (Λ := Gword_Words.Λ0) (cuts_nil) (by kernel_rfl) (D := 64) (b := loopOf Try.f79 250) (by kernel_rfl) (by kernel_rfl) NN (fun x κ => by kernel_rfl) (fun k x κ => by kernel_rfl)
theorem Gword_Words.spec : Spec Try.prog 79 Gword_Words.pk Gword_Words.rk Gword_Words.g :=
  spec_of_body (fn := Try.f79) (c := bodyOf Try.f79) (by kernel_rfl) (by kernel_rfl) (by kernel_rfl) (by kernel_rfl) (ρ := Gword_Words.ρ) Gword_Words.hρ (Λ := Gword_Words.Λ) (fun A w0 => cuts_cons (Gword_Words.c250 A w0) (cuts_nil)) (fun x => by kernel_rfl)

/-! ### 57 bluebell/word.Pack -/
def Gword_Pack.f (a0 : ByteArray) (a1 : D) : Option (List D × Int) :=
  (Gword_Valid.f a1).bind fun r1 => bif (!r1) then some ([], 3) else bif decide ((a0.size : Int) > 255) then some ([], 2) else gd (!(8 == 0)) (gd (!((IntKind.i64.wrap (((a1.cell 0).int).tdiv 8)) == 0)) (gd (decide (0 ≤ (IntKind.i64.wrap ((IntKind.i64.wrap ((IntKind.i64.wrap ((IntKind.i64.wrap ((IntKind.i64.wrap ((a0.size : Int) + 1)) + (IntKind.i64.wrap (((a1.cell 0).int).tdiv 8)))) - 1)).tdiv (IntKind.i64.wrap (((a1.cell 0).int).tdiv 8)))) * (IntKind.i64.wrap (((a1.cell 0).int).tdiv 8))))) && decide ((IntKind.i64.wrap ((IntKind.i64.wrap ((IntKind.i64.wrap ((IntKind.i64.wrap ((IntKind.i64.wrap ((a0.size : Int) + 1)) + (IntKind.i64.wrap (((a1.cell 0).int).tdiv 8)))) - 1)).tdiv (IntKind.i64.wrap (((a1.cell 0).int).tdiv 8)))) * (IntKind.i64.wrap (((a1.cell 0).int).tdiv 8)))) ≤ (lim : Int))) (gd (inB 0 (List.replicate (IntKind.i64.wrap ((IntKind.i64.wrap ((IntKind.i64.wrap ((IntKind.i64.wrap ((IntKind.i64.wrap ((a0.size : Int) + 1)) + (IntKind.i64.wrap (((a1.cell 0).int).tdiv 8)))) - 1)).tdiv (IntKind.i64.wrap (((a1.cell 0).int).tdiv 8)))) * (IntKind.i64.wrap (((a1.cell 0).int).tdiv 8)))).toNat (.i 0 : D)).length) (gd (Nat.blt 0 (List.replicate (IntKind.i64.wrap ((IntKind.i64.wrap ((IntKind.i64.wrap ((IntKind.i64.wrap ((IntKind.i64.wrap ((a0.size : Int) + 1)) + (IntKind.i64.wrap (((a1.cell 0).int).tdiv 8)))) - 1)).tdiv (IntKind.i64.wrap (((a1.cell 0).int).tdiv 8)))) * (IntKind.i64.wrap (((a1.cell 0).int).tdiv 8)))).toNat (.i 0 : D)).length) (gd (decide (0 ≤ (1 : Int)) && decide (1 ≤ (((List.replicate (IntKind.i64.wrap ((IntKind.i64.wrap ((IntKind.i64.wrap ((IntKind.i64.wrap ((IntKind.i64.wrap ((a0.size : Int) + 1)) + (IntKind.i64.wrap (((a1.cell 0).int).tdiv 8)))) - 1)).tdiv (IntKind.i64.wrap (((a1.cell 0).int).tdiv 8)))) * (IntKind.i64.wrap (((a1.cell 0).int).tdiv 8)))).toNat (.i 0 : D)).set 0 (.i (IntKind.u8.wrap (a0.size : Int)))).length : Int))) (gd (Nat.ble (ubytes a0).length (((List.replicate (IntKind.i64.wrap ((IntKind.i64.wrap ((IntKind.i64.wrap ((IntKind.i64.wrap ((IntKind.i64.wrap ((a0.size : Int) + 1)) + (IntKind.i64.wrap (((a1.cell 0).int).tdiv 8)))) - 1)).tdiv (IntKind.i64.wrap (((a1.cell 0).int).tdiv 8)))) * (IntKind.i64.wrap (((a1.cell 0).int).tdiv 8)))).toNat (.i 0 : D)).set 0 (.i (IntKind.u8.wrap (a0.size : Int)))).length - 1)) ((Gword_Words.f (((List.replicate (IntKind.i64.wrap ((IntKind.i64.wrap ((IntKind.i64.wrap ((IntKind.i64.wrap ((IntKind.i64.wrap ((a0.size : Int) + 1)) + (IntKind.i64.wrap (((a1.cell 0).int).tdiv 8)))) - 1)).tdiv (IntKind.i64.wrap (((a1.cell 0).int).tdiv 8)))) * (IntKind.i64.wrap (((a1.cell 0).int).tdiv 8)))).toNat (.i 0 : D)).set 0 (.i (IntKind.u8.wrap (a0.size : Int)))).take 1 ++ ((ubytes a0) ++ ((List.replicate (IntKind.i64.wrap ((IntKind.i64.wrap ((IntKind.i64.wrap ((IntKind.i64.wrap ((IntKind.i64.wrap ((a0.size : Int) + 1)) + (IntKind.i64.wrap (((a1.cell 0).int).tdiv 8)))) - 1)).tdiv (IntKind.i64.wrap (((a1.cell 0).int).tdiv 8)))) * (IntKind.i64.wrap (((a1.cell 0).int).tdiv 8)))).toNat (.i 0 : D)).set 0 (.i (IntKind.u8.wrap (a0.size : Int)))).drop (1 + (ubytes a0).length))) a1).bind fun r2 => some (r2.1, r2.2))))))))
def Gword_Pack.pk : List FK := [.str, .st 45]
def Gword_Pack.rk : List FK := [.own 3, .int .i64]
def Gword_Pack.g : Tp Gword_Pack.pk → Option (Tp Gword_Pack.rk) := fun x => Gword_Pack.f x.1 x.2
def Gword_Pack.ρ : List (Entry (Tp Gword_Pack.rk)) := [entry _ Try.prog 55 Gword_Valid.pk Gword_Valid.rk Gword_Valid.g, entry _ Try.prog 79 Gword_Words.pk Gword_Words.rk Gword_Words.g]
theorem Gword_Pack.hρ : ∀ e ∈ Gword_Pack.ρ, EntryOk Try.prog e :=
  ents_cons (ent (fn := Try.f55) Gword_Valid.spec (by kernel_rfl) (by kernel_rfl) (by kernel_rfl) (by kernel_rfl)) (ents_cons (ent (fn := Try.f79) Gword_Words.spec (by kernel_rfl) (by kernel_rfl) (by kernel_rfl) (by kernel_rfl)) (ents_nil))
def Gword_Pack.Λ : Cuts (Tp Gword_Pack.rk) := cutsOf []
theorem Gword_Pack.spec : Spec Try.prog 57 Gword_Pack.pk Gword_Pack.rk Gword_Pack.g :=
  spec_of_body (fn := Try.f57) (c := bodyOf Try.f57) (by kernel_rfl) (by kernel_rfl) (by kernel_rfl) (by kernel_rfl) (ρ := Gword_Pack.ρ) Gword_Pack.hρ (Λ := Gword_Pack.Λ) (fun A w0 => cuts_nil) (fun x => by kernel_rfl)

/-! ### 58 bluebell/word.Norm -/
def Gword_Norm.f (a0 : Int) (a1 : Int) : Option (Int × Int) :=
  (Gword_sized.f a1).bind fun r1 => bif (!r1) then some (0, 3) else (Gword_norm.f a0 a1).bind fun r2 => some (r2, 0)
def Gword_Norm.pk : List FK := [.int .i64, .int .i64]
def Gword_Norm.rk : List FK := [.int .i64, .int .i64]
def Gword_Norm.g : Tp Gword_Norm.pk → Option (Tp Gword_Norm.rk) := fun x => Gword_Norm.f x.1 x.2
def Gword_Norm.ρ : List (Entry (Tp Gword_Norm.rk)) := [entry _ Try.prog 77 Gword_sized.pk Gword_sized.rk Gword_sized.g, entry _ Try.prog 80 Gword_norm.pk Gword_norm.rk Gword_norm.g]
theorem Gword_Norm.hρ : ∀ e ∈ Gword_Norm.ρ, EntryOk Try.prog e :=
  ents_cons (ent (fn := Try.f77) Gword_sized.spec (by kernel_rfl) (by kernel_rfl) (by kernel_rfl) (by kernel_rfl)) (ents_cons (ent (fn := Try.f80) Gword_norm.spec (by kernel_rfl) (by kernel_rfl) (by kernel_rfl) (by kernel_rfl)) (ents_nil))
def Gword_Norm.Λ : Cuts (Tp Gword_Norm.rk) := cutsOf []
theorem Gword_Norm.spec : Spec Try.prog 58 Gword_Norm.pk Gword_Norm.rk Gword_Norm.g :=
  spec_of_body (fn := Try.f58) (c := bodyOf Try.f58) (by kernel_rfl) (by kernel_rfl) (by kernel_rfl) (by kernel_rfl) (ρ := Gword_Norm.ρ) Gword_Norm.hρ (Λ := Gword_Norm.Λ) (fun A w0 => cuts_nil) (fun x => by kernel_rfl)

/-! ### 32 bluebell/ocode.Words -/
def Gocode_Words.l250 : Nat → D → (List D) → (List D) → Int → Int → (List D → Option (List D × Int)) → Option (List D × Int)
  | 0, _, _, _, _, _, _ => none
  | k + 1, v3, v6, v21, v22, v23, κ1 =>
    bif decide (v23 < v22) then gd (inB v23 v21.length) ((Gword_Norm.f ((rd v21 v23.toNat).int) ((v3.cell 0).int)).bind fun r3 => gd (Nat.ble (v6.length + ([.i r3.1] : List D).length) lim) (Gocode_Words.l250 k v3 (v6 ++ ([.i r3.1] : List D)) v21 v22 (IntKind.i64.wrap (v23 + 1)) κ1)) else κ1 v6
def Gocode_Words.f (a0 : D) (a1 : D) : Option (List D × Int) :=
  (Gword_Valid.f a1).bind fun r1 => bif (!r1) then some ([], 3) else bif (a0.cell 1).bool then (Gword_Pack.f ((a0.cell 0).str) a1).bind fun r2 => some (r2.1, r2.2) else Gocode_Words.l250 NN a1 [] ((a0.cell 2).list) (((a0.cell 2).list).length : Int) 0 (fun y4 => some (y4, 0))
def Gocode_Words.pk : List FK := [.st 47, .st 45]
def Gocode_Words.rk : List FK := [.own 3, .int .i64]
def Gocode_Words.g : Tp Gocode_Words.pk → Option (Tp Gocode_Words.rk) := fun x => Gocode_Words.f x.1 x.2
def Gocode_Words.ρ : List (Entry (Tp Gocode_Words.rk)) := [entry _ Try.prog 55 Gword_Valid.pk Gword_Valid.rk Gword_Valid.g, entry _ Try.prog 57 Gword_Pack.pk Gword_Pack.rk Gword_Pack.g, entry _ Try.prog 58 Gword_Norm.pk Gword_Norm.rk Gword_Norm.g]
theorem Gocode_Words.hρ : ∀ e ∈ Gocode_Words.ρ, EntryOk Try.prog e :=
  ents_cons (ent (fn := Try.f55) Gword_Valid.spec (by kernel_rfl) (by kernel_rfl) (by kernel_rfl) (by kernel_rfl)) (ents_cons (ent (fn := Try.f57) Gword_Pack.spec (by kernel_rfl) (by kernel_rfl) (by kernel_rfl) (by kernel_rfl)) (ents_cons (ent (fn := Try.f58) Gword_Norm.spec (by kernel_rfl) (by kernel_rfl) (by kernel_rfl) (by kernel_rfl)) (ents_nil)))
def Gocode_Words.fr250 : Fr := [(3, .bx (.st 45)), (6, .own 3), (21, .sl 3), (22, .int .i64), (23, .int .i64)]
def Gocode_Words.ou250 : Outs := [(1, [(6, .own 3)])]
def Gocode_Words.T250 (k : Nat) (x : Gocode_Words.fr250.T) (κ : Kp (Tp Gocode_Words.rk) Gocode_Words.ou250) : Option (Tp Gocode_Words.rk) := Gocode_Words.l250 k x.1 x.2.1 x.2.2.1 x.2.2.2.1 x.2.2.2.2 κ.1
def Gocode_Words.Λ0 : Cuts (Tp Gocode_Words.rk) := cutsOf []
def Gocode_Words.Λ : Cuts (Tp Gocode_Words.rk) := cutsOf [(250, cut Try.prog Gocode_Words.fr250 Gocode_Words.ou250 (Gocode_Words.T250 NN))]
theorem Gocode_Words.c250 (A : Nat → Prop) (w0 : World) : CutOk Try.prog ⟨Try.f32.ntmps, A⟩ w0 (kRet Try.prog Try.f32.results.toList Gocode_Words.rk) (bodyOf Try.f32) 250 (cut Try.prog Gocode_Words.fr250 Gocode_Words.ou250 (Gocode_Words.T250 NN)) :=
  loop_ok Gocode_Words.hρ (Λ := Gocode_Words.Λ0) (cuts_nil) (by kernel_rfl) (D := 64) (b := loopOf Try.f32 250) (by kernel_rfl) (by kernel_rfl) NN (fun x κ => by kernel_rfl) (fun k x κ => by kernel_rfl)
theorem Gocode_Words.spec : Spec Try.prog 32 Gocode_Words.pk Gocode_Words.rk Gocode_Words.g :=
  spec_of_body (fn := Try.f32) (c := bodyOf Try.f32) (by kernel_rfl) (by kernel_rfl) (by kernel_rfl) (by kernel_rfl) (ρ := Gocode_Words.ρ) Gocode_Words.hρ (Λ := Gocode_Words.Λ) (fun A w0 => cuts_cons (Gocode_Words.c250 A w0) (cuts_nil)) (fun x => by kernel_rfl)

/-! ### 30 bluebell/ocode.Layout -/
def Gocode_Layout.l1018 : Nat → D → (List D) → Int → (List D) → Int → Int → ((List D × Int) → Option (List D × Int × Int)) → Option (List D × Int × Int)
  | 0, _, _, _, _, _, _, _ => none
  | k + 1, v3, v8, v9, v23, v24, v25, κ1 =>
    bif decide (v25 < v24) then gd (inB v25 v23.length) (gd (Nat.ble (v8.length + ([.i v9] : List D).length) lim) ((Gocode_Words.f (rd v23 v25.toNat) v3).bind fun r3 => Gocode_Layout.l1018 k v3 (v8 ++ ([.i v9] : List D)) (IntKind.i64.wrap (v9 + (r3.1.length : Int))) v23 v24 (IntKind.i64.wrap (v25 + 1)) κ1)) else κ1 (v8, v9)
def Gocode_Layout.f (a0 : D) (a1 : D) : Option (List D × Int × Int) :=
  (Gocode_Check.f a0).bind fun r1 => bif (r1 != 0) then some ([], 0, r1) else (Gword_Valid.f a1).bind fun r2 => bif (!r2) then some ([], 0, 3) else Gocode_Layout.l1018 NN a1 [] 200 ((a0.cell 1).list) (((a0.cell 1).list).length : Int) 0 (fun y4 => bif decide (y4.2 > 8000) then some ([], 0, 2) else some (y4.1, y4.2, 0))
def Gocode_Layout.pk : List FK := [.st 26, .st 45]
def Gocode_Layout.rk : List FK := [.own 3, .int .i64, .int .i64]
def Gocode_Layout.g : Tp Gocode_Layout.pk → Option (Tp Gocode_Layout.rk) := fun x => Gocode_Layout.f x.1 x.2
def Gocode_Layout.ρ : List (Entry (Tp Gocode_Layout.rk)) := [entry _ Try.prog 20 Gocode_Check.pk Gocode_Check.rk Gocode_Check.g, entry _ Try.prog 55 Gword_Valid.pk Gword_Valid.rk Gword_Valid.g, entry _ Try.prog 32 Gocode_Words.pk Gocode_Words.rk Gocode_Words.g]
theorem Gocode_Layout.hρ : ∀ e ∈ Gocode_Layout.ρ, EntryOk Try.prog e :=
  ents_cons (ent (fn := Try.f20) Gocode_Check.spec (by kernel_rfl) (by kernel_rfl) (by kernel_rfl) (by kernel_rfl)) (ents_cons (ent (fn := Try.f55) Gword_Valid.spec (by kernel_rfl) (by kernel_rfl) (by kernel_rfl) (by kernel_rfl)) (ents_cons (ent (fn := Try.f32) Gocode_Words.spec (by kernel_rfl) (by kernel_rfl) (by kernel_rfl) (by kernel_rfl)) (ents_nil)))
def Gocode_Layout.fr1018 : Fr := [(3, .bx (.st 45)), (8, .own 3), (9, .int .i64), (23, .sl 47), (24, .int .i64), (25, .int .i64)]
def Gocode_Layout.ou1018 : Outs := [(1, [(8, .own 3), (9, .int .i64)])]
def Gocode_Layout.T1018 (k : Nat) (x : Gocode_Layout.fr1018.T) (κ : Kp (Tp Gocode_Layout.rk) Gocode_Layout.ou1018) : Option (Tp Gocode_Layout.rk) := Gocode_Layout.l1018 k x.1 x.2.1 x.2.2.1 x.2.2.2.1 x.2.2.2.2.1 x.2.2.2.2.2 κ.1
def Gocode_Layout.Λ0 : Cuts (Tp Gocode_Layout.rk) := cutsOf []
def Gocode_Layout.Λ : Cuts (Tp Gocode_Layout.rk) := cutsOf [(1018, cut Try.prog Gocode_Layout.fr1018 Gocode_Layout.ou1018 (Gocode_Layout.T1018 NN))]
theorem Gocode_Layout.c1018 (A : Nat → Prop) (w0 : World) : CutOk Try.prog ⟨Try.f30.ntmps, A⟩ w0 (kRet Try.prog Try.f30.results.toList Gocode_Layout.rk) (bodyOf Try.f30) 1018 (cut Try.prog Gocode_Layout.fr1018 Gocode_Layout.ou1018 (Gocode_Layout.T1018 NN)) :=
  loop_ok Gocode_Layout.hρ (Λ := Gocode_Layout.Λ0) (cuts_nil) (by kernel_rfl) (D := 64) (b := loopOf Try.f30 1018) (by kernel_rfl) (by kernel_rfl) NN (fun x κ => by kernel_rfl) (fun k x κ => by kernel_rfl)
theorem Gocode_Layout.spec : Spec Try.prog 30 Gocode_Layout.pk Gocode_Layout.rk Gocode_Layout.g :=
  spec_of_body (fn := Try.f30) (c := bodyOf Try.f30) (by kernel_rfl) (by kernel_rfl) (by kernel_rfl) (by kernel_rfl) (ρ := Gocode_Layout.ρ) Gocode_Layout.hρ (Λ := Gocode_Layout.Λ) (fun A w0 => cuts_cons (Gocode_Layout.c1018 A w0) (cuts_nil)) (fun x => by kernel_rfl)

/-! ### 78 bluebell/bluebellref01.Bits -/
def Gr01_Bits.f (a0 : Int) : Option Bool :=
  some (((a0 == 16) || (a0 == 24)) || (a0 == 32))
def Gr01_Bits.pk : List FK := [.int .i64]
def Gr01_Bits.rk : List FK := [.bool]
def Gr01_Bits.g : Tp Gr01_Bits.pk → Option (Tp Gr01_Bits.rk) := fun x => Gr01_Bits.f x
def Gr01_Bits.ρ : List (Entry (Tp Gr01_Bits.rk)) := []
theorem Gr01_Bits.hρ : ∀ e ∈ Gr01_Bits.ρ, EntryOk Try.prog e :=
  ents_nil
def Gr01_Bits.Λ : Cuts (Tp Gr01_Bits.rk) := cutsOf []
theorem Gr01_Bits.spec : Spec Try.prog 78 Gr01_Bits.pk Gr01_Bits.rk Gr01_Bits.g :=
  spec_of_body (fn := Try.f78) (c := bodyOf Try.f78) (by kernel_rfl) (by kernel_rfl) (by kernel_rfl) (by kernel_rfl) (ρ := Gr01_Bits.ρ) Gr01_Bits.hρ (Λ := Gr01_Bits.Λ) (fun A w0 => cuts_nil) (fun x => by kernel_rfl)

/-! ### 56 bluebell/bluebellref01.Valid -/
def Gr01_Valid.f (a0 : D) : Option Bool :=
  (Gr01_Bits.f ((a0.cell 0).int)).bind fun r1 => some r1
def Gr01_Valid.pk : List FK := [.st 45]
def Gr01_Valid.rk : List FK := [.bool]
def Gr01_Valid.g : Tp Gr01_Valid.pk → Option (Tp Gr01_Valid.rk) := fun x => Gr01_Valid.f x
def Gr01_Valid.ρ : List (Entry (Tp Gr01_Valid.rk)) := [entry _ Try.prog 78 Gr01_Bits.pk Gr01_Bits.rk Gr01_Bits.g]
theorem Gr01_Valid.hρ : ∀ e ∈ Gr01_Valid.ρ, EntryOk Try.prog e :=
  ents_cons (ent (fn := Try.f78) Gr01_Bits.spec (by kernel_rfl) (by kernel_rfl) (by kernel_rfl) (by kernel_rfl)) (ents_nil)
def Gr01_Valid.Λ : Cuts (Tp Gr01_Valid.rk) := cutsOf []
theorem Gr01_Valid.spec : Spec Try.prog 56 Gr01_Valid.pk Gr01_Valid.rk Gr01_Valid.g :=
  spec_of_body (fn := Try.f56) (c := bodyOf Try.f56) (by kernel_rfl) (by kernel_rfl) (by kernel_rfl) (by kernel_rfl) (ρ := Gr01_Valid.ρ) Gr01_Valid.hρ (Λ := Gr01_Valid.Λ) (fun A w0 => cuts_nil) (fun x => by kernel_rfl)

/-! ### 81 bluebell/bluebellref01.size -/
def Gr01_size.f (a0 : D) : Option Int :=
  gd (!(8 == 0)) (some (IntKind.i64.wrap (((a0.cell 0).int).tdiv 8)))
def Gr01_size.pk : List FK := [.st 45]
def Gr01_size.rk : List FK := [.int .i64]
def Gr01_size.g : Tp Gr01_size.pk → Option (Tp Gr01_size.rk) := fun x => Gr01_size.f x
def Gr01_size.ρ : List (Entry (Tp Gr01_size.rk)) := []
theorem Gr01_size.hρ : ∀ e ∈ Gr01_size.ρ, EntryOk Try.prog e :=
  ents_nil
def Gr01_size.Λ : Cuts (Tp Gr01_size.rk) := cutsOf []
theorem Gr01_size.spec : Spec Try.prog 81 Gr01_size.pk Gr01_size.rk Gr01_size.g :=
  spec_of_body (fn := Try.f81) (c := bodyOf Try.f81) (by kernel_rfl) (by kernel_rfl) (by kernel_rfl) (by kernel_rfl) (ρ := Gr01_size.ρ) Gr01_size.hρ (Λ := Gr01_size.Λ) (fun A w0 => cuts_nil) (fun x => by kernel_rfl)

/-! ### 96 bluebell/bluebellref01.power -/
def Gr01_power.l58 : Nat → Int → Int → Int → (Int → Option Int) → Option Int
  | 0, _, _, _, _ => none
  | k + 1, v0, v3, v4, κ1 =>
    bif decide (v4 < v0) then Gr01_power.l58 k v0 (IntKind.i64.wrap (v3 * 2)) (IntKind.i64.wrap (v4 + 1)) κ1 else κ1 v3
def Gr01_power.f (a0 : Int) : Option Int :=
  Gr01_power.l58 NN a0 1 0 (fun y1 => some y1)
def Gr01_power.pk : List FK := [.int .i64]
def Gr01_power.rk : List FK := [.int .i64]
def Gr01_power.g : Tp Gr01_power.pk → Option (Tp Gr01_power.rk) := fun x => Gr01_power.f x
def Gr01_power.ρ : List (Entry (Tp Gr01_power.rk)) := []
theorem Gr01_power.hρ : ∀ e ∈ Gr01_power.ρ, EntryOk Try.prog e :=
  ents_nil
def Gr01_power.fr58 : Fr := [(0, .int .i64), (3, .int .i64), (4, .int .i64)]
def Gr01_power.ou58 : Outs := [(1, [(3, .int .i64)])]
def Gr01_power.T58 (k : Nat) (x : Gr01_power.fr58.T) (κ : Kp (Tp Gr01_power.rk) Gr01_power.ou58) : Option (Tp Gr01_power.rk) := Gr01_power.l58 k x.1 x.2.1 x.2.2 κ.1
def Gr01_power.Λ0 : Cuts (Tp Gr01_power.rk) := cutsOf []
def Gr01_power.Λ : Cuts (Tp Gr01_power.rk) := cutsOf [(58, cut Try.prog Gr01_power.fr58 Gr01_power.ou58 (Gr01_power.T58 NN))]
theorem Gr01_power.c58 (A : Nat → Prop) (w0 : World) : CutOk Try.prog ⟨Try.f96.ntmps, A⟩ w0 (kRet Try.prog Try.f96.results.toList Gr01_power.rk) (bodyOf Try.f96) 58 (cut Try.prog Gr01_power.fr58 Gr01_power.ou58 (Gr01_power.T58 NN)) :=
  loop_ok Gr01_power.hρ (Λ := Gr01_power.Λ0) (cuts_nil) (by kernel_rfl) (D := 64) (b := loopOf Try.f96 58) (by kernel_rfl) (by kernel_rfl) NN (fun x κ => by kernel_rfl) (fun k x κ => by kernel_rfl)
theorem Gr01_power.spec : Spec Try.prog 96 Gr01_power.pk Gr01_power.rk Gr01_power.g :=
  spec_of_body (fn := Try.f96) (c := bodyOf Try.f96) (by kernel_rfl) (by kernel_rfl) (by kernel_rfl) (by kernel_rfl) (ρ := Gr01_power.ρ) Gr01_power.hρ (Λ := Gr01_power.Λ) (fun A w0 => cuts_cons (Gr01_power.c58 A w0) (cuts_nil)) (fun x => by kernel_rfl)

/-! ### 83 bluebell/bluebellref01.norm -/
def Gr01_norm.p31 (v0 : Int) (v5 : Int) : Option Int :=
  gd (!(2 == 0)) (bif decide (v0 ≥ (IntKind.i64.wrap (v5.tdiv 2))) then some (IntKind.i64.wrap (v0 - v5)) else some v0)
def Gr01_norm.f (a0 : Int) (a1 : Int) : Option Int :=
  (Gr01_power.f a1).bind fun r1 => gd (!(r1 == 0)) (gd (!(2 == 0)) (bif decide ((a0.tmod r1) < (IntKind.i64.wrap ((IntKind.i64.wrap (0 - r1)).tdiv 2))) then Gr01_norm.p31 (IntKind.i64.wrap ((a0.tmod r1) + r1)) r1 else Gr01_norm.p31 (a0.tmod r1) r1))
def Gr01_norm.pk : List FK := [.int .i64, .int .i64]
def Gr01_norm.rk : List FK := [.int .i64]
def Gr01_norm.g : Tp Gr01_norm.pk → Option (Tp Gr01_norm.rk) := fun x => Gr01_norm.f x.1 x.2
def Gr01_norm.ρ : List (Entry (Tp Gr01_norm.rk)) := [entry _ Try.prog 96 Gr01_power.pk Gr01_power.rk Gr01_power.g]
theorem Gr01_norm.hρ : ∀ e ∈ Gr01_norm.ρ, EntryOk Try.prog e :=
  ents_cons (ent (fn := Try.f96) Gr01_power.spec (by kernel_rfl) (by kernel_rfl) (by kernel_rfl) (by kernel_rfl)) (ents_nil)
def Gr01_norm.fr31 : Fr := [(0, .int .i64), (5, .int .i64)]
def Gr01_norm.ou31 : Outs := []
def Gr01_norm.T31 (x : Gr01_norm.fr31.T) (κ : Kp (Tp Gr01_norm.rk) Gr01_norm.ou31) : Option (Tp Gr01_norm.rk) := Gr01_norm.p31 x.1 x.2
def Gr01_norm.Λ0 : Cuts (Tp Gr01_norm.rk) := cutsOf []
def Gr01_norm.Λ : Cuts (Tp Gr01_norm.rk) := cutsOf [(31, cut Try.prog Gr01_norm.fr31 Gr01_norm.ou31 (Gr01_norm.T31))]
theorem Gr01_norm.c31 (A : Nat → Prop) (w0 : World) : CutOk Try.prog ⟨Try.f83.ntmps, A⟩ w0 (kRet Try.prog Try.f83.results.toList Gr01_norm.rk) (bodyOf Try.f83) 31 (cut Try.prog Gr01_norm.fr31 Gr01_norm.ou31 (Gr01_norm.T31)) :=
  cut_ok Gr01_norm.hρ (Λ := Gr01_norm.Λ0) (cuts_nil) (by kernel_rfl) (by kernel_rfl) (D := 64) (c := nodeOf Try.f83 31) (by kernel_rfl) (by kernel_rfl) (fun x κ => by kernel_rfl)
theorem Gr01_norm.spec : Spec Try.prog 83 Gr01_norm.pk Gr01_norm.rk Gr01_norm.g :=
  spec_of_body (fn := Try.f83) (c := bodyOf Try.f83) (by kernel_rfl) (by kernel_rfl) (by kernel_rfl) (by kernel_rfl) (ρ := Gr01_norm.ρ) Gr01_norm.hρ (Λ := Gr01_norm.Λ) (fun A w0 => cuts_cons (Gr01_norm.c31 A w0) (cuts_nil)) (fun x => by kernel_rfl)
end
end Go.Pv
