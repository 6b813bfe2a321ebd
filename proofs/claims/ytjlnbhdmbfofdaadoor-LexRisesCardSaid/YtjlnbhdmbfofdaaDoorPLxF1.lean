/- The program's functions as functions of data, and their contracts. -/
import Derived.Test.YtjlnbhdmbfofdaaDoorPLxC
import Derived.Test.YtjlnbhdmbfofdaaDoorPLxHPvH2
import Derived.Test.YtjlnbhdmbfofdaaDoorProg
set_option linter.unusedVariables false
set_option linter.unusedSimpArgs false
set_option maxRecDepth 100000
namespace Go.Pv
noncomputable section
open Go.Proofs
def strhec28f7c6b9b145d9 : ByteArray := ⟨#[97, 110, 100, 32, 98, 101, 32, 98, 114, 101, 97, 107, 32, 98, 121, 32, 99, 97, 115, 101, 32, 100, 101, 102, 97, 117, 108, 116, 32, 100, 111, 32, 101, 108, 115, 101, 32, 101, 110, 100, 99, 97, 115, 101, 32, 101, 113, 118, 32, 102, 97, 108, 115, 101, 32, 102, 105, 110, 105, 115, 104, 32, 102, 111, 114, 32, 103, 108, 111, 98, 97, 108, 32, 103, 111, 116, 111, 32, 105, 102, 32, 105, 110, 116, 111, 32, 108, 101, 116, 32, 108, 111, 111, 112, 32, 109, 97, 110, 105, 102, 101, 115, 116, 32, 111, 102, 32, 111, 114, 32, 114, 101, 109, 32, 114, 101, 112, 101, 97, 116, 32, 114, 101, 112, 101, 97, 116, 117, 110, 116, 105, 108, 32, 114, 101, 112, 101, 97, 116, 119, 104, 105, 108, 101, 32, 114, 101, 115, 117, 108, 116, 105, 115, 32, 114, 101, 116, 117, 114, 110, 32, 115, 101, 99, 116, 105, 111, 110, 32, 115, 108, 99, 116, 32, 115, 116, 97, 116, 105, 99, 32, 115, 119, 105, 116, 99, 104, 111, 110, 32, 116, 97, 98, 108, 101, 32, 116, 101, 115, 116, 32, 116, 104, 101, 110, 32, 116, 111, 32, 116, 114, 117, 101, 32, 117, 110, 108, 101, 115, 115, 32, 117, 110, 116, 105, 108, 32, 118, 97, 108, 111, 102, 32, 118, 101, 99, 32, 119, 104, 105, 108, 101, 32, 120, 111, 114]⟩
def str2f2f : ByteArray := ⟨#[47, 47]⟩
def strh31e994760f40ef52 : ByteArray := ⟨#[40, 32, 41, 32, 123, 32, 125, 32, 44, 32, 59, 32, 58, 32, 33, 32, 37, 32, 64, 32, 43, 32, 45, 32, 42, 32, 47, 32, 38, 32, 124, 32, 126, 32, 63, 32, 61, 32, 126, 61, 32, 60, 32, 60, 61, 32, 62, 32, 62, 61, 32, 60, 60, 32, 62, 62, 32, 58, 61, 32, 45, 62]⟩
def strNil : ByteArray := ⟨#[]⟩
def str506172736555696e74 : ByteArray := ⟨#[80, 97, 114, 115, 101, 85, 105, 110, 116]⟩
def str6e74732a2722 : ByteArray := ⟨#[110, 116, 115, 42, 39, 34]⟩
def str0a09202a2722 : ByteArray := ⟨#[10, 9, 32, 42, 39, 34]⟩
def str783a3d236666 : ByteArray := ⟨#[120, 58, 61, 35, 102, 102]⟩
def str78 : ByteArray := ⟨#[120]⟩
def str3a3d : ByteArray := ⟨#[58, 61]⟩
def str0a : ByteArray := ⟨#[10]⟩
def str09202f2f2a200a : ByteArray := ⟨#[9, 32, 47, 47, 42, 32, 10]⟩

/-! ### 15 bluebell/lex.Keys -/
def Glex_Keys.f : Option (List D) :=
  (Gstrings_Fields.f strhec28f7c6b9b145d9).bind fun r1 => some r1
def Glex_Keys.pk : List FK := []
def Glex_Keys.rk : List FK := [.own 9]
def Glex_Keys.g : Tp Glex_Keys.pk → Option (Tp Glex_Keys.rk) := fun _ => Glex_Keys.f
def Glex_Keys.ρ : List (Entry (Tp Glex_Keys.rk)) := [entry _ Tryd.prog 34 Gstrings_Fields.pk Gstrings_Fields.rk Gstrings_Fields.g]
theorem Glex_Keys.hρ : ∀ e ∈ Glex_Keys.ρ, EntryOk Tryd.prog e :=
  ents_cons (ent (fn := Tryd.f34) Gstrings_Fields.spec (by kernel_rfl) (by kernel_rfl) (by kernel_rfl) (by kernel_rfl)) (ents_nil)
def Glex_Keys.Λ : Cuts (Tp Glex_Keys.rk) := cutsOf []
theorem Glex_Keys.spec : Spec Tryd.prog 15 Glex_Keys.pk Glex_Keys.rk Glex_Keys.g :=
  spec_of_body (fn := Tryd.f15) (c := bodyOf Tryd.f15) (by kernel_rfl) (by kernel_rfl) (by kernel_rfl) (by kernel_rfl) (ρ := Glex_Keys.ρ) Glex_Keys.hρ (Λ := Glex_Keys.Λ) (fun A w0 => cuts_nil) (fun x => by kernel_rfl)

/-! ### 37 bluebell/lex.keys -/
def Glex_keys.l58 : Nat → (List (D × D)) → (List D) → Int → Int → ((List (D × D)) → Option (List (D × D))) → Option (List (D × D))
  | 0, _, _, _, _, _ => none
  | k + 1, v1, v5, v6, v7, κ1 =>
    bif decide (v7 < v6) then gd (inB v7 v5.length) (gd (Nat.blt v7.toNat v5.length) (gd ((decide (((rd v5 v7.toNat).str).size ≤ maxS)) && Nat.blt v1.length lim) (Glex_keys.l58 k ((.s ((rd v5 v7.toNat).str), .b true) :: v1) v5 v6 (IntKind.i64.wrap (v7 + 1)) κ1))) else κ1 v1
def Glex_keys.f : Option (List (D × D)) :=
  (Glex_Keys.f).bind fun r1 => Glex_keys.l58 NN ([] : List (D × D)) r1 (r1.length : Int) 0 (fun y2 => some y2)
def Glex_keys.pk : List FK := []
def Glex_keys.rk : List FK := [.mp 9 4]
def Glex_keys.g : Tp Glex_keys.pk → Option (Tp Glex_keys.rk) := fun _ => Glex_keys.f
def Glex_keys.ρ : List (Entry (Tp Glex_keys.rk)) := [entry _ Tryd.prog 15 Glex_Keys.pk Glex_Keys.rk Glex_Keys.g]
theorem Glex_keys.hρ : ∀ e ∈ Glex_keys.ρ, EntryOk Tryd.prog e :=
  ents_cons (ent (fn := Tryd.f15) Glex_Keys.spec (by kernel_rfl) (by kernel_rfl) (by kernel_rfl) (by kernel_rfl)) (ents_nil)
def Glex_keys.fr58 : Fr := [(1, .mp 9 4), (5, .own 9), (6, .int .i64), (7, .int .i64)]
def Glex_keys.ou58 : Outs := [(1, [(1, .mp 9 4)])]
def Glex_keys.T58 (k : Nat) (x : Glex_keys.fr58.T) (κ : Kp (Tp Glex_keys.rk) Glex_keys.ou58) : Option (Tp Glex_keys.rk) := Glex_keys.l58 k x.1 x.2.1 x.2.2.1 x.2.2.2 κ.1
def Glex_keys.Λ0 : Cuts (Tp Glex_keys.rk) := cutsOf []
def Glex_keys.Λ : Cuts (Tp Glex_keys.rk) := cutsOf [(58, cut Tryd.prog Glex_keys.fr58 Glex_keys.ou58 (Glex_keys.T58 NN))]
theorem Glex_keys.c58 (A : Ks) (w0 : World) : CutOk Tryd.prog ⟨Tryd.f37.ntmps, 0, A⟩ w0 (kRet Tryd.prog Tryd.f37.results.toList Glex_keys.rk) (bodyOf Tryd.f37) 58 (cut Tryd.prog Glex_keys.fr58 Glex_keys.ou58 (Glex_keys.T58 NN)) :=
  loop_ok Glex_keys.hρ (Λ := Glex_keys.Λ0) (cuts_nil) (by kernel_rfl) (D := 64) (b := loopOf Tryd.f37 58) (by kernel_rfl) (by kernel_rfl) NN (fun x κ => by kernel_rfl) (fun k x κ => by kernel_rfl)
theorem Glex_keys.spec : Spec Tryd.prog 37 Glex_keys.pk Glex_keys.rk Glex_keys.g :=
  spec_of_body (fn := Tryd.f37) (c := bodyOf Tryd.f37) (by kernel_rfl) (by kernel_rfl) (by kernel_rfl) (by kernel_rfl) (ρ := Glex_keys.ρ) Glex_keys.hρ (Λ := Glex_keys.Λ) (fun A w0 => cuts_cons (Glex_keys.c58 A w0) (cuts_nil)) (fun x => by kernel_rfl)

/-! ### 83 internal/stringslite.HasPrefix -/
def Ginternal_stringslite_HasPrefix.f (a0 : ByteArray) (a1 : ByteArray) : Option Bool :=
  gd ((!(decide ((a0.size : Int) ≥ (a1.size : Int)))) || (decide (0 ≤ (a1.size : Int)) && decide ((a1.size : Int) ≤ (a0.size : Int)))) (some ((decide ((a0.size : Int) ≥ (a1.size : Int))) && ((a0.extract 0 (a1.size : Int).toNat).toList == a1.toList)))
def Ginternal_stringslite_HasPrefix.pk : List FK := [.str, .str]
def Ginternal_stringslite_HasPrefix.rk : List FK := [.bool]
def Ginternal_stringslite_HasPrefix.g : Tp Ginternal_stringslite_HasPrefix.pk → Option (Tp Ginternal_stringslite_HasPrefix.rk) := fun x => Ginternal_stringslite_HasPrefix.f x.1 x.2
def Ginternal_stringslite_HasPrefix.ρ : List (Entry (Tp Ginternal_stringslite_HasPrefix.rk)) := []
theorem Ginternal_stringslite_HasPrefix.hρ : ∀ e ∈ Ginternal_stringslite_HasPrefix.ρ, EntryOk Tryd.prog e :=
  ents_nil
def Ginternal_stringslite_HasPrefix.Λ : Cuts (Tp Ginternal_stringslite_HasPrefix.rk) := cutsOf []
theorem Ginternal_stringslite_HasPrefix.spec : Spec Tryd.prog 83 Ginternal_stringslite_HasPrefix.pk Ginternal_stringslite_HasPrefix.rk Ginternal_stringslite_HasPrefix.g :=
  spec_of_body (fn := Tryd.f83) (c := bodyOf Tryd.f83) (by kernel_rfl) (by kernel_rfl) (by kernel_rfl) (by kernel_rfl) (ρ := Ginternal_stringslite_HasPrefix.ρ) Ginternal_stringslite_HasPrefix.hρ (Λ := Ginternal_stringslite_HasPrefix.Λ) (fun A w0 => cuts_nil) (fun x => by kernel_rfl)

/-! ### 60 strings.HasPrefix -/
def Gstrings_HasPrefix.f (a0 : ByteArray) (a1 : ByteArray) : Option Bool :=
  (Ginternal_stringslite_HasPrefix.f a0 a1).bind fun r1 => some r1
def Gstrings_HasPrefix.pk : List FK := [.str, .str]
def Gstrings_HasPrefix.rk : List FK := [.bool]
def Gstrings_HasPrefix.g : Tp Gstrings_HasPrefix.pk → Option (Tp Gstrings_HasPrefix.rk) := fun x => Gstrings_HasPrefix.f x.1 x.2
def Gstrings_HasPrefix.ρ : List (Entry (Tp Gstrings_HasPrefix.rk)) := [entry _ Tryd.prog 83 Ginternal_stringslite_HasPrefix.pk Ginternal_stringslite_HasPrefix.rk Ginternal_stringslite_HasPrefix.g]
theorem Gstrings_HasPrefix.hρ : ∀ e ∈ Gstrings_HasPrefix.ρ, EntryOk Tryd.prog e :=
  ents_cons (ent (fn := Tryd.f83) Ginternal_stringslite_HasPrefix.spec (by kernel_rfl) (by kernel_rfl) (by kernel_rfl) (by kernel_rfl)) (ents_nil)
def Gstrings_HasPrefix.Λ : Cuts (Tp Gstrings_HasPrefix.rk) := cutsOf []
theorem Gstrings_HasPrefix.spec : Spec Tryd.prog 60 Gstrings_HasPrefix.pk Gstrings_HasPrefix.rk Gstrings_HasPrefix.g :=
  spec_of_body (fn := Tryd.f60) (c := bodyOf Tryd.f60) (by kernel_rfl) (by kernel_rfl) (by kernel_rfl) (by kernel_rfl) (ρ := Gstrings_HasPrefix.ρ) Gstrings_HasPrefix.hρ (Λ := Gstrings_HasPrefix.Λ) (fun A w0 => cuts_nil) (fun x => by kernel_rfl)

/-! ### 41 (*bluebell/lex.scanner).skip -/
def Glex_scanner__skip.p4795 (v0 : (ByteArray × Int × List (D × D) × Unit)) (v3 : Int) (κ0 : (ByteArray × Int × List (D × D) × Unit) → Option (ByteArray × Int × List (D × D) × Unit)) : Option (ByteArray × Int × List (D × D) × Unit) :=
  κ0 (v0.1, (IntKind.i64.wrap (v0.2.1 + v3)), v0.2.2.1, ())
def Glex_scanner__skip.l2 : Nat → ((ByteArray × Int × List (D × D) × Unit)) → ((ByteArray × Int × List (D × D) × Unit) → Option (ByteArray × Int × List (D × D) × Unit)) → Option (ByteArray × Int × List (D × D) × Unit)
  | 0, _, _ => none
  | k + 1, v0, κ1 =>
    bif decide (v0.2.1 < (v0.1.size : Int)) then gd (inB v0.2.1 v0.1.size) (bif ((((bt v0.1 v0.2.1.toNat) == 32) || ((bt v0.1 v0.2.1.toNat) == 9)) || ((bt v0.1 v0.2.1.toNat) == 10)) then Glex_scanner__skip.l2 k (v0.1, (IntKind.i64.wrap (v0.2.1 + 1)), v0.2.2.1, ()) κ1 else gd (decide (0 ≤ v0.2.1) && decide (v0.2.1 ≤ (v0.1.size : Int))) ((Gstrings_HasPrefix.f (v0.1.extract v0.2.1.toNat v0.1.size) str2f2f).bind fun r1 => bif r1 then gd (decide (0 ≤ v0.2.1) && decide (v0.2.1 ≤ (v0.1.size : Int))) ((Gstrings_IndexByte.f (v0.1.extract v0.2.1.toNat v0.1.size) 10).bind fun r2 => bif decide (r2 < 0) then Glex_scanner__skip.p4795 (v0.1, v0.2.1, v0.2.2.1, ()) (IntKind.i64.wrap ((v0.1.size : Int) - v0.2.1)) (fun y3 => Glex_scanner__skip.l2 k (y3.1, y3.2.1, y3.2.2.1, ()) κ1) else Glex_scanner__skip.p4795 (v0.1, v0.2.1, v0.2.2.1, ()) r2 (fun y4 => Glex_scanner__skip.l2 k (y4.1, y4.2.1, y4.2.2.1, ()) κ1)) else some (v0.1, v0.2.1, v0.2.2.1, ()))) else κ1 (v0.1, v0.2.1, v0.2.2.1, ())
def Glex_scanner__skip.f (a0 : (ByteArray × Int × List (D × D) × Unit)) : Option (ByteArray × Int × List (D × D) × Unit) :=
  Glex_scanner__skip.l2 NN (a0.1, a0.2.1, a0.2.2.1, ()) (fun y5 => some (y5.1, y5.2.1, y5.2.2.1, ()))
def Glex_scanner__skip.pk : List FK := [.bx (.cn (.str) (.cn (.int .i64) (.cn (.mp 9 4) (.ce))))]
def Glex_scanner__skip.rk : List FK := [.bx (.cn (.str) (.cn (.int .i64) (.cn (.mp 9 4) (.ce))))]
def Glex_scanner__skip.g : Tp Glex_scanner__skip.pk → Option (Tp Glex_scanner__skip.rk) := fun x => Glex_scanner__skip.f x
def Glex_scanner__skip.ρ : List (Entry (Tp Glex_scanner__skip.rk)) := [entry _ Tryd.prog 60 Gstrings_HasPrefix.pk Gstrings_HasPrefix.rk Gstrings_HasPrefix.g, entry _ Tryd.prog 46 Gstrings_IndexByte.pk Gstrings_IndexByte.rk Gstrings_IndexByte.g]
theorem Glex_scanner__skip.hρ : ∀ e ∈ Glex_scanner__skip.ρ, EntryOk Tryd.prog e :=
  ents_cons (ent (fn := Tryd.f60) Gstrings_HasPrefix.spec (by kernel_rfl) (by kernel_rfl) (by kernel_rfl) (by kernel_rfl)) (ents_cons (ent (fn := Tryd.f46) Gstrings_IndexByte.spec (by kernel_rfl) (by kernel_rfl) (by kernel_rfl) (by kernel_rfl)) (ents_nil))
def Glex_scanner__skip.fr4795 : Fr := [(0, .bx (.cn (.str) (.cn (.int .i64) (.cn (.mp 9 4) (.ce))))), (3, .int .i64)]
def Glex_scanner__skip.ou4795 : Outs := [(0, [(0, .bx (.cn (.str) (.cn (.int .i64) (.cn (.mp 9 4) (.ce)))))])]
def Glex_scanner__skip.T4795 (x : Glex_scanner__skip.fr4795.T) (κ : Kp (Tp Glex_scanner__skip.rk) Glex_scanner__skip.ou4795) : Option (Tp Glex_scanner__skip.rk) := Glex_scanner__skip.p4795 x.1 x.2 κ.1
def Glex_scanner__skip.fr2 : Fr := [(0, .bx (.cn (.str) (.cn (.int .i64) (.cn (.mp 9 4) (.ce)))))]
def Glex_scanner__skip.ou2 : Outs := [(1, [(0, .bx (.cn (.str) (.cn (.int .i64) (.cn (.mp 9 4) (.ce)))))])]
def Glex_scanner__skip.T2 (k : Nat) (x : Glex_scanner__skip.fr2.T) (κ : Kp (Tp Glex_scanner__skip.rk) Glex_scanner__skip.ou2) : Option (Tp Glex_scanner__skip.rk) := Glex_scanner__skip.l2 k x κ.1
def Glex_scanner__skip.Λ0 : Cuts (Tp Glex_scanner__skip.rk) := cutsOf []
def Glex_scanner__skip.Λ1 : Cuts (Tp Glex_scanner__skip.rk) := cutsOf [(4795, cut Tryd.prog Glex_scanner__skip.fr4795 Glex_scanner__skip.ou4795 (Glex_scanner__skip.T4795))]
def Glex_scanner__skip.Λ : Cuts (Tp Glex_scanner__skip.rk) := cutsOf [(2, cut Tryd.prog Glex_scanner__skip.fr2 Glex_scanner__skip.ou2 (Glex_scanner__skip.T2 NN)), (4795, cut Tryd.prog Glex_scanner__skip.fr4795 Glex_scanner__skip.ou4795 (Glex_scanner__skip.T4795))]
theorem Glex_scanner__skip.c4795 (A : Ks) (w0 : World) : CutOk Tryd.prog ⟨Tryd.f41.ntmps, 1, A⟩ w0 (kRetIO Tryd.prog [0] Tryd.f41.results.toList Glex_scanner__skip.rk) (bodyOf Tryd.f41) 4795 (cut Tryd.prog Glex_scanner__skip.fr4795 Glex_scanner__skip.ou4795 (Glex_scanner__skip.T4795)) :=
  cut_ok Glex_scanner__skip.hρ (Λ := Glex_scanner__skip.Λ0) (cuts_nil) (by kernel_rfl) (by kernel_rfl) (D := 64) (c := nodeOf Tryd.f41 4795) (by kernel_rfl) (by kernel_rfl) (fun x κ => by kernel_rfl)
theorem Glex_scanner__skip.c2 (A : Ks) (w0 : World) : CutOk Tryd.prog ⟨Tryd.f41.ntmps, 1, A⟩ w0 (kRetIO Tryd.prog [0] Tryd.f41.results.toList Glex_scanner__skip.rk) (bodyOf Tryd.f41) 2 (cut Tryd.prog Glex_scanner__skip.fr2 Glex_scanner__skip.ou2 (Glex_scanner__skip.T2 NN)) :=
  loop_ok Glex_scanner__skip.hρ (Λ := Glex_scanner__skip.Λ1) (cuts_cons (Glex_scanner__skip.c4795 A w0) (cuts_nil)) (by kernel_rfl) (D := 64) (b := loopOf Tryd.f41 2) (by kernel_rfl) (by kernel_rfl) NN (fun x κ => by kernel_rfl) (fun k x κ => by kernel_rfl)
theorem Glex_scanner__skip.spec : SpecIO Tryd.prog 41 Glex_scanner__skip.pk [0] Glex_scanner__skip.rk Glex_scanner__skip.g :=
  spec_io_of_body (fn := Tryd.f41) (c := bodyOf Tryd.f41) (by kernel_rfl) (by kernel_rfl) (by kernel_rfl) (np := 1) (by kernel_rfl) (by kernel_rfl) (by kernel_rfl) (ρ := Glex_scanner__skip.ρ) Glex_scanner__skip.hρ (Λ := Glex_scanner__skip.Λ) (fun A w0 => cuts_cons (Glex_scanner__skip.c2 A w0) (cuts_cons (Glex_scanner__skip.c4795 A w0) (cuts_nil))) (fun x => by kernel_rfl)

/-! ### 17 bluebell/lex.Signs -/
def Glex_Signs.f : Option (List D) :=
  (Gstrings_Fields.f strh31e994760f40ef52).bind fun r1 => some r1
def Glex_Signs.pk : List FK := []
def Glex_Signs.rk : List FK := [.own 9]
def Glex_Signs.g : Tp Glex_Signs.pk → Option (Tp Glex_Signs.rk) := fun _ => Glex_Signs.f
def Glex_Signs.ρ : List (Entry (Tp Glex_Signs.rk)) := [entry _ Tryd.prog 34 Gstrings_Fields.pk Gstrings_Fields.rk Gstrings_Fields.g]
theorem Glex_Signs.hρ : ∀ e ∈ Glex_Signs.ρ, EntryOk Tryd.prog e :=
  ents_cons (ent (fn := Tryd.f34) Gstrings_Fields.spec (by kernel_rfl) (by kernel_rfl) (by kernel_rfl) (by kernel_rfl)) (ents_nil)
def Glex_Signs.Λ : Cuts (Tp Glex_Signs.rk) := cutsOf []
theorem Glex_Signs.spec : Spec Tryd.prog 17 Glex_Signs.pk Glex_Signs.rk Glex_Signs.g :=
  spec_of_body (fn := Tryd.f17) (c := bodyOf Tryd.f17) (by kernel_rfl) (by kernel_rfl) (by kernel_rfl) (by kernel_rfl) (ρ := Glex_Signs.ρ) Glex_Signs.hρ (Λ := Glex_Signs.Λ) (fun A w0 => cuts_nil) (fun x => by kernel_rfl)

/-! ### 61 (*bluebell/lex.scanner).sign -/
def Glex_scanner__sign.l58 : Nat → ((ByteArray × Int × List (D × D) × Unit)) → D → D → (List D) → Int → Int → (((ByteArray × Int × List (D × D) × Unit) × D × D) → Option (D × Int × (ByteArray × Int × List (D × D) × Unit))) → Option (D × Int × (ByteArray × Int × List (D × D) × Unit))
  | 0, _, _, _, _, _, _, _ => none
  | k + 1, v0, v2, v4, v12, v13, v14, κ1 =>
    bif decide (v14 < v13) then gd (inB v14 v12.length) (gd (Nat.blt v14.toNat v12.length) (gd ((!(decide ((((rd v12 v14.toNat).str).size : Int) > (((v4.cell 1).str).size : Int)))) || (decide (0 ≤ v0.2.1) && decide (v0.2.1 ≤ (v0.1.size : Int)))) ((bif (decide ((((rd v12 v14.toNat).str).size : Int) > (((v4.cell 1).str).size : Int))) then Gstrings_HasPrefix.f (v0.1.extract v0.2.1.toNat v0.1.size) ((rd v12 v14.toNat).str) else some false).bind fun r2 => bif ((decide ((((rd v12 v14.toNat).str).size : Int) > (((v4.cell 1).str).size : Int))) && r2) then Glex_scanner__sign.l58 k (v0.1, v0.2.1, v0.2.2.1, ()) v2 (.r [.i ((v4.cell 0).int), .s ((rd v12 v14.toNat).str), .i ((v4.cell 2).int), .i ((v4.cell 3).int)]) v12 v13 (IntKind.i64.wrap (v14 + 1)) κ1 else Glex_scanner__sign.l58 k (v0.1, v0.2.1, v0.2.2.1, ()) v2 v4 v12 v13 (IntKind.i64.wrap (v14 + 1)) κ1))) else κ1 ((v0.1, v0.2.1, v0.2.2.1, ()), v2, v4)
def Glex_scanner__sign.f (a0 : (ByteArray × Int × List (D × D) × Unit)) : Option (D × Int × (ByteArray × Int × List (D × D) × Unit)) :=
  (Glex_Signs.f).bind fun r1 => Glex_scanner__sign.l58 NN (a0.1, a0.2.1, a0.2.2.1, ()) (.r [.i 0, .s ByteArray.empty, .i 0, .i 0]) (.r [.i 5, .s ByteArray.empty, .i 0, .i a0.2.1]) r1 (r1.length : Int) 0 (fun y3 => bif (((y3.2.2.cell 1).str).toList == strNil.toList) then some (y3.2.2, 20, (y3.1.1, y3.1.2.1, y3.1.2.2.1, ())) else some (y3.2.2, 0, (y3.1.1, (IntKind.i64.wrap (y3.1.2.1 + (((y3.2.2.cell 1).str).size : Int))), y3.1.2.2.1, ())))
def Glex_scanner__sign.pk : List FK := [.bx (.cn (.str) (.cn (.int .i64) (.cn (.mp 9 4) (.ce))))]
def Glex_scanner__sign.rk : List FK := [.st 33, .int .i64, .bx (.cn (.str) (.cn (.int .i64) (.cn (.mp 9 4) (.ce))))]
def Glex_scanner__sign.g : Tp Glex_scanner__sign.pk → Option (Tp Glex_scanner__sign.rk) := fun x => Glex_scanner__sign.f x
def Glex_scanner__sign.ρ : List (Entry (Tp Glex_scanner__sign.rk)) := [entry _ Tryd.prog 17 Glex_Signs.pk Glex_Signs.rk Glex_Signs.g, entry _ Tryd.prog 60 Gstrings_HasPrefix.pk Gstrings_HasPrefix.rk Gstrings_HasPrefix.g]
theorem Glex_scanner__sign.hρ : ∀ e ∈ Glex_scanner__sign.ρ, EntryOk Tryd.prog e :=
  ents_cons (ent (fn := Tryd.f17) Glex_Signs.spec (by kernel_rfl) (by kernel_rfl) (by kernel_rfl) (by kernel_rfl)) (ents_cons (ent (fn := Tryd.f60) Gstrings_HasPrefix.spec (by kernel_rfl) (by kernel_rfl) (by kernel_rfl) (by kernel_rfl)) (ents_nil))
def Glex_scanner__sign.fr58 : Fr := [(0, .bx (.cn (.str) (.cn (.int .i64) (.cn (.mp 9 4) (.ce))))), (2, .bx (.st 33)), (4, .bx (.st 33)), (12, .own 9), (13, .int .i64), (14, .int .i64)]
def Glex_scanner__sign.ou58 : Outs := [(1, [(0, .bx (.cn (.str) (.cn (.int .i64) (.cn (.mp 9 4) (.ce))))), (2, .bx (.st 33)), (4, .bx (.st 33))])]
def Glex_scanner__sign.T58 (k : Nat) (x : Glex_scanner__sign.fr58.T) (κ : Kp (Tp Glex_scanner__sign.rk) Glex_scanner__sign.ou58) : Option (Tp Glex_scanner__sign.rk) := Glex_scanner__sign.l58 k x.1 x.2.1 x.2.2.1 x.2.2.2.1 x.2.2.2.2.1 x.2.2.2.2.2 κ.1
def Glex_scanner__sign.Λ0 : Cuts (Tp Glex_scanner__sign.rk) := cutsOf []
def Glex_scanner__sign.Λ : Cuts (Tp Glex_scanner__sign.rk) := cutsOf [(58, cut Tryd.prog Glex_scanner__sign.fr58 Glex_scanner__sign.ou58 (Glex_scanner__sign.T58 NN))]
theorem Glex_scanner__sign.c58 (A : Ks) (w0 : World) : CutOk Tryd.prog ⟨Tryd.f61.ntmps, 1, A⟩ w0 (kRetIO Tryd.prog [0] Tryd.f61.results.toList Glex_scanner__sign.rk) (bodyOf Tryd.f61) 58 (cut Tryd.prog Glex_scanner__sign.fr58 Glex_scanner__sign.ou58 (Glex_scanner__sign.T58 NN)) :=
  loop_ok Glex_scanner__sign.hρ (Λ := Glex_scanner__sign.Λ0) (cuts_nil) (by kernel_rfl) (D := 64) (b := loopOf Tryd.f61 58) (by kernel_rfl) (by kernel_rfl) NN (fun x κ => by kernel_rfl) (fun k x κ => by kernel_rfl)
theorem Glex_scanner__sign.spec : SpecIO Tryd.prog 61 Glex_scanner__sign.pk [0] Glex_scanner__sign.rk Glex_scanner__sign.g :=
  spec_io_of_body (fn := Tryd.f61) (c := bodyOf Tryd.f61) (by kernel_rfl) (by kernel_rfl) (by kernel_rfl) (np := 1) (by kernel_rfl) (by kernel_rfl) (by kernel_rfl) (ρ := Glex_scanner__sign.ρ) Glex_scanner__sign.hρ (Λ := Glex_scanner__sign.Λ) (fun A w0 => cuts_cons (Glex_scanner__sign.c58 A w0) (cuts_nil)) (fun x => by kernel_rfl)

/-! ### 35 bluebell/lex.small -/
def Glex_small.f (a0 : Int) : Option Bool :=
  some ((decide (a0 ≥ 97)) && (decide (a0 ≤ 122)))
def Glex_small.pk : List FK := [.int .u8]
def Glex_small.rk : List FK := [.bool]
def Glex_small.g : Tp Glex_small.pk → Option (Tp Glex_small.rk) := fun x => Glex_small.f x
def Glex_small.ρ : List (Entry (Tp Glex_small.rk)) := []
theorem Glex_small.hρ : ∀ e ∈ Glex_small.ρ, EntryOk Tryd.prog e :=
  ents_nil
def Glex_small.Λ : Cuts (Tp Glex_small.rk) := cutsOf []
theorem Glex_small.spec : Spec Tryd.prog 35 Glex_small.pk Glex_small.rk Glex_small.g :=
  spec_of_body (fn := Tryd.f35) (c := bodyOf Tryd.f35) (by kernel_rfl) (by kernel_rfl) (by kernel_rfl) (by kernel_rfl) (ρ := Glex_small.ρ) Glex_small.hρ (Λ := Glex_small.Λ) (fun A w0 => cuts_nil) (fun x => by kernel_rfl)

/-! ### 58 bluebell/lex.digit -/
def Glex_digit.f (a0 : Int) : Option Bool :=
  some ((decide (a0 ≥ 48)) && (decide (a0 ≤ 57)))
def Glex_digit.pk : List FK := [.int .u8]
def Glex_digit.rk : List FK := [.bool]
def Glex_digit.g : Tp Glex_digit.pk → Option (Tp Glex_digit.rk) := fun x => Glex_digit.f x
def Glex_digit.ρ : List (Entry (Tp Glex_digit.rk)) := []
theorem Glex_digit.hρ : ∀ e ∈ Glex_digit.ρ, EntryOk Tryd.prog e :=
  ents_nil
def Glex_digit.Λ : Cuts (Tp Glex_digit.rk) := cutsOf []
theorem Glex_digit.spec : Spec Tryd.prog 58 Glex_digit.pk Glex_digit.rk Glex_digit.g :=
  spec_of_body (fn := Tryd.f58) (c := bodyOf Tryd.f58) (by kernel_rfl) (by kernel_rfl) (by kernel_rfl) (by kernel_rfl) (ρ := Glex_digit.ρ) Glex_digit.hρ (Λ := Glex_digit.Λ) (fun A w0 => cuts_nil) (fun x => by kernel_rfl)

/-! ### 36 bluebell/lex.wordy -/
def Glex_wordy.f (a0 : Int) : Option Bool :=
  (Glex_small.f a0).bind fun r1 => (bif (!r1) then Glex_digit.f a0 else some false).bind fun r2 => some ((r1 || r2) || (a0 == 95))
def Glex_wordy.pk : List FK := [.int .u8]
def Glex_wordy.rk : List FK := [.bool]
def Glex_wordy.g : Tp Glex_wordy.pk → Option (Tp Glex_wordy.rk) := fun x => Glex_wordy.f x
def Glex_wordy.ρ : List (Entry (Tp Glex_wordy.rk)) := [entry _ Tryd.prog 35 Glex_small.pk Glex_small.rk Glex_small.g, entry _ Tryd.prog 58 Glex_digit.pk Glex_digit.rk Glex_digit.g]
theorem Glex_wordy.hρ : ∀ e ∈ Glex_wordy.ρ, EntryOk Tryd.prog e :=
  ents_cons (ent (fn := Tryd.f35) Glex_small.spec (by kernel_rfl) (by kernel_rfl) (by kernel_rfl) (by kernel_rfl)) (ents_cons (ent (fn := Tryd.f58) Glex_digit.spec (by kernel_rfl) (by kernel_rfl) (by kernel_rfl) (by kernel_rfl)) (ents_nil))
def Glex_wordy.Λ : Cuts (Tp Glex_wordy.rk) := cutsOf []
theorem Glex_wordy.spec : Spec Tryd.prog 36 Glex_wordy.pk Glex_wordy.rk Glex_wordy.g :=
  spec_of_body (fn := Tryd.f36) (c := bodyOf Tryd.f36) (by kernel_rfl) (by kernel_rfl) (by kernel_rfl) (by kernel_rfl) (ρ := Glex_wordy.ρ) Glex_wordy.hρ (Λ := Glex_wordy.Λ) (fun A w0 => cuts_nil) (fun x => by kernel_rfl)

/-! ### (84, None, 36) (*bluebell/lex.scanner).run -/
def Glex_scanner__run_36.l28 : Nat → ((ByteArray × Int × List (D × D) × Unit)) → Unit → Int → (((ByteArray × Int × List (D × D) × Unit) × Int) → Option (ByteArray × (ByteArray × Int × List (D × D) × Unit))) → Option (ByteArray × (ByteArray × Int × List (D × D) × Unit))
  | 0, _, _, _, _ => none
  | k + 1, v0, v1, v5, κ1 =>
    gd ((!(decide (v0.2.1 < (v0.1.size : Int)))) || (inB v0.2.1 v0.1.size)) ((bif (decide (v0.2.1 < (v0.1.size : Int))) then Glex_wordy.f (bt v0.1 v0.2.1.toNat) else some false).bind fun r1 => bif ((decide (v0.2.1 < (v0.1.size : Int))) && r1) then Glex_scanner__run_36.l28 k (v0.1, (IntKind.i64.wrap (v0.2.1 + 1)), v0.2.2.1, ()) () v5 κ1 else κ1 ((v0.1, v0.2.1, v0.2.2.1, ()), v5))
def Glex_scanner__run_36.f (a0 : (ByteArray × Int × List (D × D) × Unit)) (a1 : Unit) : Option (ByteArray × (ByteArray × Int × List (D × D) × Unit)) :=
  Glex_scanner__run_36.l28 NN (a0.1, a0.2.1, a0.2.2.1, ()) () a0.2.1 (fun y2 => gd (decide (0 ≤ y2.2) && (decide (y2.2 ≤ y2.1.2.1) && decide (y2.1.2.1 ≤ (y2.1.1.size : Int)))) (some ((y2.1.1.extract y2.2.toNat y2.1.2.1.toNat), (y2.1.1, y2.1.2.1, y2.1.2.2.1, ()))))
def Glex_scanner__run_36.pk : List FK := [.bx (.cn (.str) (.cn (.int .i64) (.cn (.mp 9 4) (.ce)))), .fn 36]
def Glex_scanner__run_36.rk : List FK := [.str, .bx (.cn (.str) (.cn (.int .i64) (.cn (.mp 9 4) (.ce))))]
def Glex_scanner__run_36.g : Tp Glex_scanner__run_36.pk → Option (Tp Glex_scanner__run_36.rk) := fun x => Glex_scanner__run_36.f x.1 x.2
def Glex_scanner__run_36.ρ : List (Entry (Tp Glex_scanner__run_36.rk)) := [entry _ Tryd.prog 36 Glex_wordy.pk Glex_wordy.rk Glex_wordy.g]
theorem Glex_scanner__run_36.hρ : ∀ e ∈ Glex_scanner__run_36.ρ, EntryOk Tryd.prog e :=
  ents_cons (ent (fn := Tryd.f36) Glex_wordy.spec (by kernel_rfl) (by kernel_rfl) (by kernel_rfl) (by kernel_rfl)) (ents_nil)
def Glex_scanner__run_36.fr28 : Fr := [(0, .bx (.cn (.str) (.cn (.int .i64) (.cn (.mp 9 4) (.ce))))), (1, .fn 36), (5, .int .i64)]
def Glex_scanner__run_36.ou28 : Outs := [(1, [(0, .bx (.cn (.str) (.cn (.int .i64) (.cn (.mp 9 4) (.ce))))), (5, .int .i64)])]
def Glex_scanner__run_36.T28 (k : Nat) (x : Glex_scanner__run_36.fr28.T) (κ : Kp (Tp Glex_scanner__run_36.rk) Glex_scanner__run_36.ou28) : Option (Tp Glex_scanner__run_36.rk) := Glex_scanner__run_36.l28 k x.1 x.2.1 x.2.2 κ.1
def Glex_scanner__run_36.Λ0 : Cuts (Tp Glex_scanner__run_36.rk) := cutsOf []
def Glex_scanner__run_36.Λ : Cuts (Tp Glex_scanner__run_36.rk) := cutsOf [(28, cut Tryd.prog Glex_scanner__run_36.fr28 Glex_scanner__run_36.ou28 (Glex_scanner__run_36.T28 NN))]
theorem Glex_scanner__run_36.c28 (A : Ks) (w0 : World) : CutOk Tryd.prog ⟨Tryd.f84.ntmps, 2, A⟩ w0 (kRetIO Tryd.prog [0] Tryd.f84.results.toList Glex_scanner__run_36.rk) (bodyOf Tryd.f84) 28 (cut Tryd.prog Glex_scanner__run_36.fr28 Glex_scanner__run_36.ou28 (Glex_scanner__run_36.T28 NN)) :=
  loop_ok Glex_scanner__run_36.hρ (Λ := Glex_scanner__run_36.Λ0) (cuts_nil) (by kernel_rfl) (D := 64) (b := loopOf Tryd.f84 28) (by kernel_rfl) (by kernel_rfl) NN (fun x κ => by kernel_rfl) (fun k x κ => by kernel_rfl)
theorem Glex_scanner__run_36.spec : SpecIO Tryd.prog 84 Glex_scanner__run_36.pk [0] Glex_scanner__run_36.rk Glex_scanner__run_36.g :=
  spec_io_of_body (fn := Tryd.f84) (c := bodyOf Tryd.f84) (by kernel_rfl) (by kernel_rfl) (by kernel_rfl) (np := 2) (by kernel_rfl) (by kernel_rfl) (by kernel_rfl) (ρ := Glex_scanner__run_36.ρ) Glex_scanner__run_36.hρ (Λ := Glex_scanner__run_36.Λ) (fun A w0 => cuts_cons (Glex_scanner__run_36.c28 A w0) (cuts_nil)) (fun x => by kernel_rfl)

/-! ### 62 (*bluebell/lex.scanner).name -/
def Glex_scanner__name.f (a0 : (ByteArray × Int × List (D × D) × Unit)) : Option (D × Int × (ByteArray × Int × List (D × D) × Unit)) :=
  (Glex_scanner__run_36.f (a0.1, a0.2.1, a0.2.2.1, ()) ()).bind fun r1 => bif decide ((r1.1.size : Int) > 24) then some (.r [.i 1, .s r1.1, .i 0, .i a0.2.1], 2, (r1.2.1, r1.2.2.1, r1.2.2.2.1, ())) else gd (decide (r1.1.size ≤ maxS)) (bif (mget K.str (.s r1.1) (.b false) r1.2.2.2.1).bool then some (.r [.i 4, .s r1.1, .i 0, .i a0.2.1], 0, (r1.2.1, r1.2.2.1, r1.2.2.2.1, ())) else some (.r [.i 1, .s r1.1, .i 0, .i a0.2.1], 0, (r1.2.1, r1.2.2.1, r1.2.2.2.1, ())))
def Glex_scanner__name.pk : List FK := [.bx (.cn (.str) (.cn (.int .i64) (.cn (.mp 9 4) (.ce))))]
def Glex_scanner__name.rk : List FK := [.st 33, .int .i64, .bx (.cn (.str) (.cn (.int .i64) (.cn (.mp 9 4) (.ce))))]
def Glex_scanner__name.g : Tp Glex_scanner__name.pk → Option (Tp Glex_scanner__name.rk) := fun x => Glex_scanner__name.f x
def Glex_scanner__name.ρ : List (Entry (Tp Glex_scanner__name.rk)) := [entryIO _ Tryd.prog 84 Glex_scanner__run_36.pk Glex_scanner__run_36.rk 0 Glex_scanner__run_36.g]
theorem Glex_scanner__name.hρ : ∀ e ∈ Glex_scanner__name.ρ, EntryOk Tryd.prog e :=
  ents_cons (entIO (fn := Tryd.f84) Glex_scanner__run_36.spec (by kernel_rfl) (by kernel_rfl) (by kernel_rfl)) (ents_nil)
def Glex_scanner__name.Λ : Cuts (Tp Glex_scanner__name.rk) := cutsOf []
theorem Glex_scanner__name.spec : SpecIO Tryd.prog 62 Glex_scanner__name.pk [0] Glex_scanner__name.rk Glex_scanner__name.g :=
  spec_io_of_body (fn := Tryd.f62) (c := bodyOf Tryd.f62) (by kernel_rfl) (by kernel_rfl) (by kernel_rfl) (np := 1) (by kernel_rfl) (by kernel_rfl) (by kernel_rfl) (ρ := Glex_scanner__name.ρ) Glex_scanner__name.hρ (Λ := Glex_scanner__name.Λ) (fun A w0 => cuts_nil) (fun x => by kernel_rfl)

/-! ### 85 bluebell/lex.hex -/
def Glex_hex.f (a0 : Int) : Option Bool :=
  (Glex_digit.f a0).bind fun r1 => some ((r1 || ((decide (a0 ≥ 97)) && (decide (a0 ≤ 102)))) || ((decide (a0 ≥ 65)) && (decide (a0 ≤ 70))))
def Glex_hex.pk : List FK := [.int .u8]
def Glex_hex.rk : List FK := [.bool]
def Glex_hex.g : Tp Glex_hex.pk → Option (Tp Glex_hex.rk) := fun x => Glex_hex.f x
def Glex_hex.ρ : List (Entry (Tp Glex_hex.rk)) := [entry _ Tryd.prog 58 Glex_digit.pk Glex_digit.rk Glex_digit.g]
theorem Glex_hex.hρ : ∀ e ∈ Glex_hex.ρ, EntryOk Tryd.prog e :=
  ents_cons (ent (fn := Tryd.f58) Glex_digit.spec (by kernel_rfl) (by kernel_rfl) (by kernel_rfl) (by kernel_rfl)) (ents_nil)
def Glex_hex.Λ : Cuts (Tp Glex_hex.rk) := cutsOf []
theorem Glex_hex.spec : Spec Tryd.prog 85 Glex_hex.pk Glex_hex.rk Glex_hex.g :=
  spec_of_body (fn := Tryd.f85) (c := bodyOf Tryd.f85) (by kernel_rfl) (by kernel_rfl) (by kernel_rfl) (by kernel_rfl) (ρ := Glex_hex.ρ) Glex_hex.hρ (Λ := Glex_hex.Λ) (fun A w0 => cuts_nil) (fun x => by kernel_rfl)

/-! ### 110 internal/strconv.lower -/
def Ginternal_strconv_lower.f (a0 : Int) : Option Int :=
  some (IntKind.u8.wrap ((BitVec.ofInt (IntKind.u8).bits a0 ||| BitVec.ofInt (IntKind.u8).bits 32).toNat : Int))
def Ginternal_strconv_lower.pk : List FK := [.int .u8]
def Ginternal_strconv_lower.rk : List FK := [.int .u8]
def Ginternal_strconv_lower.g : Tp Ginternal_strconv_lower.pk → Option (Tp Ginternal_strconv_lower.rk) := fun x => Ginternal_strconv_lower.f x
def Ginternal_strconv_lower.ρ : List (Entry (Tp Ginternal_strconv_lower.rk)) := []
theorem Ginternal_strconv_lower.hρ : ∀ e ∈ Ginternal_strconv_lower.ρ, EntryOk Tryd.prog e :=
  ents_nil
def Ginternal_strconv_lower.Λ : Cuts (Tp Ginternal_strconv_lower.rk) := cutsOf []
theorem Ginternal_strconv_lower.spec : Spec Tryd.prog 110 Ginternal_strconv_lower.pk Ginternal_strconv_lower.rk Ginternal_strconv_lower.g :=
  spec_of_body (fn := Tryd.f110) (c := bodyOf Tryd.f110) (by kernel_rfl) (by kernel_rfl) (by kernel_rfl) (by kernel_rfl) (ρ := Ginternal_strconv_lower.ρ) Ginternal_strconv_lower.hρ (Λ := Ginternal_strconv_lower.Λ) (fun A w0 => cuts_nil) (fun x => by kernel_rfl)

/-! ### 111 internal/strconv.underscoreOK -/
def Ginternal_strconv_underscoreOK.l508 : Nat → ByteArray → Int → Int → Bool → (Int → Option Bool) → Option Bool
  | 0, _, _, _, _, _ => none
  | k + 1, v0, v3, v4, v5, κ1 =>
    bif decide (v4 < (v0.size : Int)) then gd (inB v4 v0.size) (gd ((!(decide ((48 : Int) ≤ (bt v0 v4.toNat)))) || (inB v4 v0.size)) (gd ((!((!((decide ((48 : Int) ≤ (bt v0 v4.toNat))) && (decide ((bt v0 v4.toNat) ≤ 57)))) && v5)) || (inB v4 v0.size)) ((bif ((!((decide ((48 : Int) ≤ (bt v0 v4.toNat))) && (decide ((bt v0 v4.toNat) ≤ 57)))) && v5) then Ginternal_strconv_lower.f (bt v0 v4.toNat) else some 0).bind fun r5 => gd ((!((!((decide ((48 : Int) ≤ (bt v0 v4.toNat))) && (decide ((bt v0 v4.toNat) ≤ 57)))) && (v5 && (decide ((97 : Int) ≤ r5))))) || (inB v4 v0.size)) ((bif ((!((decide ((48 : Int) ≤ (bt v0 v4.toNat))) && (decide ((bt v0 v4.toNat) ≤ 57)))) && (v5 && (decide ((97 : Int) ≤ r5)))) then Ginternal_strconv_lower.f (bt v0 v4.toNat) else some 0).bind fun r6 => bif (((decide ((48 : Int) ≤ (bt v0 v4.toNat))) && (decide ((bt v0 v4.toNat) ≤ 57))) || ((v5 && (decide ((97 : Int) ≤ r5))) && (decide (r6 ≤ 102)))) then Ginternal_strconv_underscoreOK.l508 k v0 48 (IntKind.i64.wrap (v4 + 1)) v5 κ1 else gd (inB v4 v0.size) (bif ((bt v0 v4.toNat) == 95) then bif (v3 != 48) then some false else Ginternal_strconv_underscoreOK.l508 k v0 95 (IntKind.i64.wrap (v4 + 1)) v5 κ1 else bif (v3 == 95) then some false else Ginternal_strconv_underscoreOK.l508 k v0 33 (IntKind.i64.wrap (v4 + 1)) v5 κ1))))) else κ1 v3
def Ginternal_strconv_underscoreOK.p127 (v0 : ByteArray) (v3 : Int) (v4 : Int) (v5 : Bool) : Option Bool :=
  Ginternal_strconv_underscoreOK.l508 NN v0 v3 v4 v5 (fun y7 => some (y7 != 95))
def Ginternal_strconv_underscoreOK.p31 (v0 : ByteArray) (v3 : Int) (v4 : Int) : Option Bool :=
  gd ((!(decide ((v0.size : Int) ≥ 2))) || (inB 0 v0.size)) (gd ((!((decide ((v0.size : Int) ≥ 2)) && ((bt v0 0) == 48))) || (inB 1 v0.size)) ((bif ((decide ((v0.size : Int) ≥ 2)) && ((bt v0 0) == 48)) then Ginternal_strconv_lower.f (bt v0 1) else some 0).bind fun r1 => gd ((!(((decide ((v0.size : Int) ≥ 2)) && ((bt v0 0) == 48)) && (!(r1 == 98)))) || (inB 1 v0.size)) ((bif (((decide ((v0.size : Int) ≥ 2)) && ((bt v0 0) == 48)) && (!(r1 == 98))) then Ginternal_strconv_lower.f (bt v0 1) else some 0).bind fun r2 => gd ((!(((decide ((v0.size : Int) ≥ 2)) && ((bt v0 0) == 48)) && (!((r1 == 98) || (r2 == 111))))) || (inB 1 v0.size)) ((bif (((decide ((v0.size : Int) ≥ 2)) && ((bt v0 0) == 48)) && (!((r1 == 98) || (r2 == 111)))) then Ginternal_strconv_lower.f (bt v0 1) else some 0).bind fun r3 => bif (((decide ((v0.size : Int) ≥ 2)) && ((bt v0 0) == 48)) && (((r1 == 98) || (r2 == 111)) || (r3 == 120))) then gd (inB 1 v0.size) ((Ginternal_strconv_lower.f (bt v0 1)).bind fun r4 => Ginternal_strconv_underscoreOK.p127 v0 48 2 (r4 == 120)) else Ginternal_strconv_underscoreOK.p127 v0 v3 v4 false))))
def Ginternal_strconv_underscoreOK.f (a0 : ByteArray) : Option Bool :=
  gd ((!(decide ((a0.size : Int) ≥ 1))) || (inB 0 a0.size)) (gd ((!((decide ((a0.size : Int) ≥ 1)) && (!((bt a0 0) == 45)))) || (inB 0 a0.size)) (bif ((decide ((a0.size : Int) ≥ 1)) && (((bt a0 0) == 45) || ((bt a0 0) == 43))) then gd (decide (0 ≤ (1 : Int)) && decide (1 ≤ (a0.size : Int))) (Ginternal_strconv_underscoreOK.p31 (a0.extract 1 a0.size) 94 0) else Ginternal_strconv_underscoreOK.p31 a0 94 0))
def Ginternal_strconv_underscoreOK.pk : List FK := [.str]
def Ginternal_strconv_underscoreOK.rk : List FK := [.bool]
def Ginternal_strconv_underscoreOK.g : Tp Ginternal_strconv_underscoreOK.pk → Option (Tp Ginternal_strconv_underscoreOK.rk) := fun x => Ginternal_strconv_underscoreOK.f x
def Ginternal_strconv_underscoreOK.ρ : List (Entry (Tp Ginternal_strconv_underscoreOK.rk)) := [entry _ Tryd.prog 110 Ginternal_strconv_lower.pk Ginternal_strconv_lower.rk Ginternal_strconv_lower.g]
theorem Ginternal_strconv_underscoreOK.hρ : ∀ e ∈ Ginternal_strconv_underscoreOK.ρ, EntryOk Tryd.prog e :=
  ents_cons (ent (fn := Tryd.f110) Ginternal_strconv_lower.spec (by kernel_rfl) (by kernel_rfl) (by kernel_rfl) (by kernel_rfl)) (ents_nil)
def Ginternal_strconv_underscoreOK.fr508 : Fr := [(0, .str), (3, .int .i32), (4, .int .i64), (5, .bool)]
def Ginternal_strconv_underscoreOK.ou508 : Outs := [(1, [(3, .int .i32)])]
def Ginternal_strconv_underscoreOK.T508 (k : Nat) (x : Ginternal_strconv_underscoreOK.fr508.T) (κ : Kp (Tp Ginternal_strconv_underscoreOK.rk) Ginternal_strconv_underscoreOK.ou508) : Option (Tp Ginternal_strconv_underscoreOK.rk) := Ginternal_strconv_underscoreOK.l508 k x.1 x.2.1 x.2.2.1 x.2.2.2 κ.1
def Ginternal_strconv_underscoreOK.fr127 : Fr := [(0, .str), (3, .int .i32), (4, .int .i64), (5, .bool)]
def Ginternal_strconv_underscoreOK.ou127 : Outs := []
def Ginternal_strconv_underscoreOK.T127 (x : Ginternal_strconv_underscoreOK.fr127.T) (κ : Kp (Tp Ginternal_strconv_underscoreOK.rk) Ginternal_strconv_underscoreOK.ou127) : Option (Tp Ginternal_strconv_underscoreOK.rk) := Ginternal_strconv_underscoreOK.p127 x.1 x.2.1 x.2.2.1 x.2.2.2
def Ginternal_strconv_underscoreOK.fr31 : Fr := [(0, .str), (3, .int .i32), (4, .int .i64)]
def Ginternal_strconv_underscoreOK.ou31 : Outs := []
def Ginternal_strconv_underscoreOK.T31 (x : Ginternal_strconv_underscoreOK.fr31.T) (κ : Kp (Tp Ginternal_strconv_underscoreOK.rk) Ginternal_strconv_underscoreOK.ou31) : Option (Tp Ginternal_strconv_underscoreOK.rk) := Ginternal_strconv_underscoreOK.p31 x.1 x.2.1 x.2.2
def Ginternal_strconv_underscoreOK.Λ0 : Cuts (Tp Ginternal_strconv_underscoreOK.rk) := cutsOf []
def Ginternal_strconv_underscoreOK.Λ1 : Cuts (Tp Ginternal_strconv_underscoreOK.rk) := cutsOf [(508, cut Tryd.prog Ginternal_strconv_underscoreOK.fr508 Ginternal_strconv_underscoreOK.ou508 (Ginternal_strconv_underscoreOK.T508 NN))]
def Ginternal_strconv_underscoreOK.Λ2 : Cuts (Tp Ginternal_strconv_underscoreOK.rk) := cutsOf [(127, cut Tryd.prog Ginternal_strconv_underscoreOK.fr127 Ginternal_strconv_underscoreOK.ou127 (Ginternal_strconv_underscoreOK.T127)), (508, cut Tryd.prog Ginternal_strconv_underscoreOK.fr508 Ginternal_strconv_underscoreOK.ou508 (Ginternal_strconv_underscoreOK.T508 NN))]
def Ginternal_strconv_underscoreOK.Λ : Cuts (Tp Ginternal_strconv_underscoreOK.rk) := cutsOf [(31, cut Tryd.prog Ginternal_strconv_underscoreOK.fr31 Ginternal_strconv_underscoreOK.ou31 (Ginternal_strconv_underscoreOK.T31)), (127, cut Tryd.prog Ginternal_strconv_underscoreOK.fr127 Ginternal_strconv_underscoreOK.ou127 (Ginternal_strconv_underscoreOK.T127)), (508, cut Tryd.prog Ginternal_strconv_underscoreOK.fr508 Ginternal_strconv_underscoreOK.ou508 (Ginternal_strconv_underscoreOK.T508 NN))]
theorem Ginternal_strconv_underscoreOK.c508 (A : Ks) (w0 : World) : CutOk Tryd.prog ⟨Tryd.f111.ntmps, 0, A⟩ w0 (kRet Tryd.prog Tryd.f111.results.toList Ginternal_strconv_underscoreOK.rk) (bodyOf Tryd.f111) 508 (cut Tryd.prog Ginternal_strconv_underscoreOK.fr508 Ginternal_strconv_underscoreOK.ou508 (Ginternal_strconv_underscoreOK.T508 NN)) :=
  loop_ok Ginternal_strconv_underscoreOK.hρ (Λ := Ginternal_strconv_underscoreOK.Λ0) (cuts_nil) (by kernel_rfl) (D := 64) (b := loopOf Tryd.f111 508) (by kernel_rfl) (by kernel_rfl) NN (fun x κ => by kernel_rfl) (fun k x κ => by kernel_rfl)
theorem Ginternal_strconv_underscoreOK.c127 (A : Ks) (w0 : World) : CutOk Tryd.prog ⟨Tryd.f111.ntmps, 0, A⟩ w0 (kRet Tryd.prog Tryd.f111.results.toList Ginternal_strconv_underscoreOK.rk) (bodyOf Tryd.f111) 127 (cut Tryd.prog Ginternal_strconv_underscoreOK.fr127 Ginternal_strconv_underscoreOK.ou127 (Ginternal_strconv_underscoreOK.T127)) :=
  cut_ok Ginternal_strconv_underscoreOK.hρ (Λ := Ginternal_strconv_underscoreOK.Λ1) (cuts_cons (Ginternal_strconv_underscoreOK.c508 A w0) (cuts_nil)) (by kernel_rfl) (by kernel_rfl) (D := 64) (c := nodeOf Tryd.f111 127) (by kernel_rfl) (by kernel_rfl) (fun x κ => by kernel_rfl)
theorem Ginternal_strconv_underscoreOK.c31 (A : Ks) (w0 : World) : CutOk Tryd.prog ⟨Tryd.f111.ntmps, 0, A⟩ w0 (kRet Tryd.prog Tryd.f111.results.toList Ginternal_strconv_underscoreOK.rk) (bodyOf Tryd.f111) 31 (cut Tryd.prog Ginternal_strconv_underscoreOK.fr31 Ginternal_strconv_underscoreOK.ou31 (Ginternal_strconv_underscoreOK.T31)) :=
  cut_ok Ginternal_strconv_underscoreOK.hρ (Λ := Ginternal_strconv_underscoreOK.Λ2) (cuts_cons (Ginternal_strconv_underscoreOK.c127 A w0) (cuts_cons (Ginternal_strconv_underscoreOK.c508 A w0) (cuts_nil))) (by kernel_rfl) (by kernel_rfl) (D := 64) (c := nodeOf Tryd.f111 31) (by kernel_rfl) (by kernel_rfl) (fun x κ => by kernel_rfl)
theorem Ginternal_strconv_underscoreOK.spec : Spec Tryd.prog 111 Ginternal_strconv_underscoreOK.pk Ginternal_strconv_underscoreOK.rk Ginternal_strconv_underscoreOK.g :=
  spec_of_body (fn := Tryd.f111) (c := bodyOf Tryd.f111) (by kernel_rfl) (by kernel_rfl) (by kernel_rfl) (by kernel_rfl) (ρ := Ginternal_strconv_underscoreOK.ρ) Ginternal_strconv_underscoreOK.hρ (Λ := Ginternal_strconv_underscoreOK.Λ) (fun A w0 => cuts_cons (Ginternal_strconv_underscoreOK.c31 A w0) (cuts_cons (Ginternal_strconv_underscoreOK.c127 A w0) (cuts_cons (Ginternal_strconv_underscoreOK.c508 A w0) (cuts_nil)))) (fun x => by kernel_rfl)

/-! ### 99 internal/strconv.ParseUint -/
def Ginternal_strconv_ParseUint.p8387175 (v1 : Int) (v8 : Bool) (v9 : ByteArray) (v10 : Int) (v11 : Int) (v12 : Bool) (v13 : Int) (v16 : Int) (v99 : List D) (v100 : Int) (v101 : Int) (κ0 : (Int × Bool × ByteArray × Int × Int × Bool × Int × List D × Int × Int) → Option (Int × Nat)) : Option (Int × Nat) :=
  bif decide (v16 ≥ (IntKind.u8.wrap v1)) then some (0, 1012) else bif decide (v13 ≥ v10) then some (v11, 1011) else bif ((decide ((IntKind.u64.wrap ((IntKind.u64.wrap (v13 * (IntKind.u64.wrap v1))) + (IntKind.u64.wrap v16))) < (IntKind.u64.wrap (v13 * (IntKind.u64.wrap v1))))) || (decide ((IntKind.u64.wrap ((IntKind.u64.wrap (v13 * (IntKind.u64.wrap v1))) + (IntKind.u64.wrap v16))) > v11))) then some (v11, 1011) else κ0 (v1, v8, v9, v10, v11, v12, (IntKind.u64.wrap ((IntKind.u64.wrap (v13 * (IntKind.u64.wrap v1))) + (IntKind.u64.wrap v16))), v99, v100, v101)
def Ginternal_strconv_ParseUint.l32762 : Nat → Int → Bool → ByteArray → Int → Int → Bool → Int → (List D) → Int → Int → ((ByteArray × Bool × Int) → Option (Int × Nat)) → Option (Int × Nat)
  | 0, _, _, _, _, _, _, _, _, _, _, _ => none
  | k + 1, v1, v8, v9, v10, v11, v12, v13, v99, v100, v101, κ4 =>
    bif decide (v101 < v100) then gd (inB v101 v99.length) (bif ((((rd v99 v101.toNat).int) == 95) && v8) then Ginternal_strconv_ParseUint.l32762 k v1 v8 v9 v10 v11 true v13 v99 v100 (IntKind.i64.wrap (v101 + 1)) κ4 else bif ((decide ((48 : Int) ≤ ((rd v99 v101.toNat).int))) && (decide (((rd v99 v101.toNat).int) ≤ 57))) then Ginternal_strconv_ParseUint.p8387175 v1 v8 v9 v10 v11 v12 v13 (IntKind.u8.wrap (((rd v99 v101.toNat).int) - 48)) v99 v100 v101 (fun y1 => Ginternal_strconv_ParseUint.l32762 k y1.1 y1.2.1 y1.2.2.1 y1.2.2.2.1 y1.2.2.2.2.1 y1.2.2.2.2.2.1 y1.2.2.2.2.2.2.1 y1.2.2.2.2.2.2.2.1 y1.2.2.2.2.2.2.2.2.1 (IntKind.i64.wrap (y1.2.2.2.2.2.2.2.2.2 + 1)) κ4) else (Ginternal_strconv_lower.f ((rd v99 v101.toNat).int)).bind fun r2 => (bif (decide ((97 : Int) ≤ r2)) then Ginternal_strconv_lower.f ((rd v99 v101.toNat).int) else some 0).bind fun r3 => bif ((decide ((97 : Int) ≤ r2)) && (decide (r3 ≤ 122))) then (Ginternal_strconv_lower.f ((rd v99 v101.toNat).int)).bind fun r4 => Ginternal_strconv_ParseUint.p8387175 v1 v8 v9 v10 v11 v12 v13 (IntKind.u8.wrap ((IntKind.u8.wrap (r4 - 97)) + 10)) v99 v100 v101 (fun y5 => Ginternal_strconv_ParseUint.l32762 k y5.1 y5.2.1 y5.2.2.1 y5.2.2.2.1 y5.2.2.2.2.1 y5.2.2.2.2.2.1 y5.2.2.2.2.2.2.1 y5.2.2.2.2.2.2.2.1 y5.2.2.2.2.2.2.2.2.1 (IntKind.i64.wrap (y5.2.2.2.2.2.2.2.2.2 + 1)) κ4) else some (0, 1012)) else κ4 (v9, v12, v13)
def Ginternal_strconv_ParseUint.p511 (v0 : ByteArray) (v1 : Int) (v2 : Int) (v8 : Bool) (v9 : ByteArray) (v10 : Int) : Option (Int × Nat) :=
  gd (decide (0 ≤ (IntKind.u64.wrap v2))) (Ginternal_strconv_ParseUint.l32762 NN v1 v8 v9 v10 (IntKind.u64.wrap ((IntKind.u64.wrap ((1 : Int) * 2 ^ (min ((IntKind.u64.wrap v2)).toNat (IntKind.u64).bits))) - 1)) false 0 (ubytes v0) ((ubytes v0).length : Int) 0 (fun y6 => (bif y6.2.1 then Ginternal_strconv_underscoreOK.f y6.1 else some false).bind fun r7 => bif (y6.2.1 && (!r7)) then some (0, 1012) else some (y6.2.2, 0)))
def Ginternal_strconv_ParseUint.p127 (v0 : ByteArray) (v1 : Int) (v2 : Int) (v8 : Bool) (v9 : ByteArray) : Option (Int × Nat) :=
  bif (v1 == 10) then Ginternal_strconv_ParseUint.p511 v0 v1 v2 v8 v9 1844674407370955162 else bif (v1 == 16) then Ginternal_strconv_ParseUint.p511 v0 v1 v2 v8 v9 1152921504606846976 else gd (!((IntKind.u64.wrap v1) == 0)) (Ginternal_strconv_ParseUint.p511 v0 v1 v2 v8 v9 (IntKind.u64.wrap ((IntKind.u64.wrap ((18446744073709551615 : Int).tdiv (IntKind.u64.wrap v1))) + 1)))
def Ginternal_strconv_ParseUint.p63 (v0 : ByteArray) (v1 : Int) (v2 : Int) (v8 : Bool) (v9 : ByteArray) : Option (Int × Nat) :=
  bif (v2 == 0) then Ginternal_strconv_ParseUint.p127 v0 v1 64 v8 v9 else bif ((decide (v2 < 0)) || (decide (v2 > 64))) then some (0, 1014) else Ginternal_strconv_ParseUint.p127 v0 v1 v2 v8 v9
def Ginternal_strconv_ParseUint.f (a0 : ByteArray) (a1 : Int) (a2 : Int) : Option (Int × Nat) :=
  bif (a0.toList == strNil.toList) then some (0, 1012) else bif ((decide ((2 : Int) ≤ a1)) && (decide (a1 ≤ 36))) then Ginternal_strconv_ParseUint.p63 a0 a1 a2 (a1 == 0) a0 else bif (a1 == 0) then gd (inB 0 a0.size) (bif ((bt a0 0) == 48) then gd ((!(decide ((a0.size : Int) ≥ 3))) || (inB 1 a0.size)) ((bif (decide ((a0.size : Int) ≥ 3)) then Ginternal_strconv_lower.f (bt a0 1) else some 0).bind fun r8 => bif ((decide ((a0.size : Int) ≥ 3)) && (r8 == 98)) then gd (decide (0 ≤ (2 : Int)) && decide (2 ≤ (a0.size : Int))) (Ginternal_strconv_ParseUint.p63 (a0.extract 2 a0.size) 2 a2 (a1 == 0) a0) else gd ((!(decide ((a0.size : Int) ≥ 3))) || (inB 1 a0.size)) ((bif (decide ((a0.size : Int) ≥ 3)) then Ginternal_strconv_lower.f (bt a0 1) else some 0).bind fun r9 => bif ((decide ((a0.size : Int) ≥ 3)) && (r9 == 111)) then gd (decide (0 ≤ (2 : Int)) && decide (2 ≤ (a0.size : Int))) (Ginternal_strconv_ParseUint.p63 (a0.extract 2 a0.size) 8 a2 (a1 == 0) a0) else gd ((!(decide ((a0.size : Int) ≥ 3))) || (inB 1 a0.size)) ((bif (decide ((a0.size : Int) ≥ 3)) then Ginternal_strconv_lower.f (bt a0 1) else some 0).bind fun r10 => bif ((decide ((a0.size : Int) ≥ 3)) && (r10 == 120)) then gd (decide (0 ≤ (2 : Int)) && decide (2 ≤ (a0.size : Int))) (Ginternal_strconv_ParseUint.p63 (a0.extract 2 a0.size) 16 a2 (a1 == 0) a0) else gd (decide (0 ≤ (1 : Int)) && decide (1 ≤ (a0.size : Int))) (Ginternal_strconv_ParseUint.p63 (a0.extract 1 a0.size) 8 a2 (a1 == 0) a0)))) else Ginternal_strconv_ParseUint.p63 a0 10 a2 (a1 == 0) a0) else some (0, 1013)
def Ginternal_strconv_ParseUint.pk : List FK := [.str, .int .i64, .int .i64]
def Ginternal_strconv_ParseUint.rk : List FK := [.int .u64, .err]
def Ginternal_strconv_ParseUint.g : Tp Ginternal_strconv_ParseUint.pk → Option (Tp Ginternal_strconv_ParseUint.rk) := fun x => Ginternal_strconv_ParseUint.f x.1 x.2.1 x.2.2
def Ginternal_strconv_ParseUint.ρ : List (Entry (Tp Ginternal_strconv_ParseUint.rk)) := [entry _ Tryd.prog 110 Ginternal_strconv_lower.pk Ginternal_strconv_lower.rk Ginternal_strconv_lower.g, entry _ Tryd.prog 111 Ginternal_strconv_underscoreOK.pk Ginternal_strconv_underscoreOK.rk Ginternal_strconv_underscoreOK.g]
theorem Ginternal_strconv_ParseUint.hρ : ∀ e ∈ Ginternal_strconv_ParseUint.ρ, EntryOk Tryd.prog e :=
  ents_cons (ent (fn := Tryd.f110) Ginternal_strconv_lower.spec (by kernel_rfl) (by kernel_rfl) (by kernel_rfl) (by kernel_rfl)) (ents_cons (ent (fn := Tryd.f111) Ginternal_strconv_underscoreOK.spec (by kernel_rfl) (by kernel_rfl) (by kernel_rfl) (by kernel_rfl)) (ents_nil))
def Ginternal_strconv_ParseUint.fr8387175 : Fr := [(1, .int .i64), (8, .bool), (9, .str), (10, .int .u64), (11, .int .u64), (12, .bool), (13, .int .u64), (16, .int .u8), (99, .sl 5), (100, .int .i64), (101, .int .i64)]
def Ginternal_strconv_ParseUint.ou8387175 : Outs := [(0, [(1, .int .i64), (8, .bool), (9, .str), (10, .int .u64), (11, .int .u64), (12, .bool), (13, .int .u64), (99, .sl 5), (100, .int .i64), (101, .int .i64)])]
def Ginternal_strconv_ParseUint.T8387175 (x : Ginternal_strconv_ParseUint.fr8387175.T) (κ : Kp (Tp Ginternal_strconv_ParseUint.rk) Ginternal_strconv_ParseUint.ou8387175) : Option (Tp Ginternal_strconv_ParseUint.rk) := Ginternal_strconv_ParseUint.p8387175 x.1 x.2.1 x.2.2.1 x.2.2.2.1 x.2.2.2.2.1 x.2.2.2.2.2.1 x.2.2.2.2.2.2.1 x.2.2.2.2.2.2.2.1 x.2.2.2.2.2.2.2.2.1 x.2.2.2.2.2.2.2.2.2.1 x.2.2.2.2.2.2.2.2.2.2 κ.1
def Ginternal_strconv_ParseUint.fr32762 : Fr := [(1, .int .i64), (8, .bool), (9, .str), (10, .int .u64), (11, .int .u64), (12, .bool), (13, .int .u64), (99, .sl 5), (100, .int .i64), (101, .int .i64)]
def Ginternal_strconv_ParseUint.ou32762 : Outs := [(4, [(9, .str), (12, .bool), (13, .int .u64)])]
def Ginternal_strconv_ParseUint.T32762 (k : Nat) (x : Ginternal_strconv_ParseUint.fr32762.T) (κ : Kp (Tp Ginternal_strconv_ParseUint.rk) Ginternal_strconv_ParseUint.ou32762) : Option (Tp Ginternal_strconv_ParseUint.rk) := Ginternal_strconv_ParseUint.l32762 k x.1 x.2.1 x.2.2.1 x.2.2.2.1 x.2.2.2.2.1 x.2.2.2.2.2.1 x.2.2.2.2.2.2.1 x.2.2.2.2.2.2.2.1 x.2.2.2.2.2.2.2.2.1 x.2.2.2.2.2.2.2.2.2 κ.1
def Ginternal_strconv_ParseUint.fr511 : Fr := [(0, .str), (1, .int .i64), (2, .int .i64), (8, .bool), (9, .str), (10, .int .u64)]
def Ginternal_strconv_ParseUint.ou511 : Outs := []
def Ginternal_strconv_ParseUint.T511 (x : Ginternal_strconv_ParseUint.fr511.T) (κ : Kp (Tp Ginternal_strconv_ParseUint.rk) Ginternal_strconv_ParseUint.ou511) : Option (Tp Ginternal_strconv_ParseUint.rk) := Ginternal_strconv_ParseUint.p511 x.1 x.2.1 x.2.2.1 x.2.2.2.1 x.2.2.2.2.1 x.2.2.2.2.2
def Ginternal_strconv_ParseUint.fr127 : Fr := [(0, .str), (1, .int .i64), (2, .int .i64), (8, .bool), (9, .str)]
def Ginternal_strconv_ParseUint.ou127 : Outs := []
def Ginternal_strconv_ParseUint.T127 (x : Ginternal_strconv_ParseUint.fr127.T) (κ : Kp (Tp Ginternal_strconv_ParseUint.rk) Ginternal_strconv_ParseUint.ou127) : Option (Tp Ginternal_strconv_ParseUint.rk) := Ginternal_strconv_ParseUint.p127 x.1 x.2.1 x.2.2.1 x.2.2.2.1 x.2.2.2.2
def Ginternal_strconv_ParseUint.fr63 : Fr := [(0, .str), (1, .int .i64), (2, .int .i64), (8, .bool), (9, .str)]
def Ginternal_strconv_ParseUint.ou63 : Outs := []
def Ginternal_strconv_ParseUint.T63 (x : Ginternal_strconv_ParseUint.fr63.T) (κ : Kp (Tp Ginternal_strconv_ParseUint.rk) Ginternal_strconv_ParseUint.ou63) : Option (Tp Ginternal_strconv_ParseUint.rk) := Ginternal_strconv_ParseUint.p63 x.1 x.2.1 x.2.2.1 x.2.2.2.1 x.2.2.2.2
def Ginternal_strconv_ParseUint.Λ0 : Cuts (Tp Ginternal_strconv_ParseUint.rk) := cutsOf []
def Ginternal_strconv_ParseUint.Λ1 : Cuts (Tp Ginternal_strconv_ParseUint.rk) := cutsOf [(8387175, cut Tryd.prog Ginternal_strconv_ParseUint.fr8387175 Ginternal_strconv_ParseUint.ou8387175 (Ginternal_strconv_ParseUint.T8387175))]
def Ginternal_strconv_ParseUint.Λ2 : Cuts (Tp Ginternal_strconv_ParseUint.rk) := cutsOf [(32762, cut Tryd.prog Ginternal_strconv_ParseUint.fr32762 Ginternal_strconv_ParseUint.ou32762 (Ginternal_strconv_ParseUint.T32762 NN)), (8387175, cut Tryd.prog Ginternal_strconv_ParseUint.fr8387175 Ginternal_strconv_ParseUint.ou8387175 (Ginternal_strconv_ParseUint.T8387175))]
def Ginternal_strconv_ParseUint.Λ3 : Cuts (Tp Ginternal_strconv_ParseUint.rk) := cutsOf [(511, cut Tryd.prog Ginternal_strconv_ParseUint.fr511 Ginternal_strconv_ParseUint.ou511 (Ginternal_strconv_ParseUint.T511)), (32762, cut Tryd.prog Ginternal_strconv_ParseUint.fr32762 Ginternal_strconv_ParseUint.ou32762 (Ginternal_strconv_ParseUint.T32762 NN)), (8387175, cut Tryd.prog Ginternal_strconv_ParseUint.fr8387175 Ginternal_strconv_ParseUint.ou8387175 (Ginternal_strconv_ParseUint.T8387175))]
def Ginternal_strconv_ParseUint.Λ4 : Cuts (Tp Ginternal_strconv_ParseUint.rk) := cutsOf [(127, cut Tryd.prog Ginternal_strconv_ParseUint.fr127 Ginternal_strconv_ParseUint.ou127 (Ginternal_strconv_ParseUint.T127)), (511, cut Tryd.prog Ginternal_strconv_ParseUint.fr511 Ginternal_strconv_ParseUint.ou511 (Ginternal_strconv_ParseUint.T511)), (32762, cut Tryd.prog Ginternal_strconv_ParseUint.fr32762 Ginternal_strconv_ParseUint.ou32762 (Ginternal_strconv_ParseUint.T32762 NN)), (8387175, cut Tryd.prog Ginternal_strconv_ParseUint.fr8387175 Ginternal_strconv_ParseUint.ou8387175 (Ginternal_strconv_ParseUint.T8387175))]
def Ginternal_strconv_ParseUint.Λ : Cuts (Tp Ginternal_strconv_ParseUint.rk) := cutsOf [(63, cut Tryd.prog Ginternal_strconv_ParseUint.fr63 Ginternal_strconv_ParseUint.ou63 (Ginternal_strconv_ParseUint.T63)), (127, cut Tryd.prog Ginternal_strconv_ParseUint.fr127 Ginternal_strconv_ParseUint.ou127 (Ginternal_strconv_ParseUint.T127)), (511, cut Tryd.prog Ginternal_strconv_ParseUint.fr511 Ginternal_strconv_ParseUint.ou511 (Ginternal_strconv_ParseUint.T511)), (32762, cut Tryd.prog Ginternal_strconv_ParseUint.fr32762 Ginternal_strconv_ParseUint.ou32762 (Ginternal_strconv_ParseUint.T32762 NN)), (8387175, cut Tryd.prog Ginternal_strconv_ParseUint.fr8387175 Ginternal_strconv_ParseUint.ou8387175 (Ginternal_strconv_ParseUint.T8387175))]
theorem Ginternal_strconv_ParseUint.c8387175 (A : Ks) (w0 : World) : CutOk Tryd.prog ⟨Tryd.f99.ntmps, 0, A⟩ w0 (kRet Tryd.prog Tryd.f99.results.toList Ginternal_strconv_ParseUint.rk) (bodyOf Tryd.f99) 8387175 (cut Tryd.prog Ginternal_strconv_ParseUint.fr8387175 Ginternal_strconv_ParseUint.ou8387175 (Ginternal_strconv_ParseUint.T8387175)) :=
  cut_ok Ginternal_strconv_ParseUint.hρ (Λ := Ginternal_strconv_ParseUint.Λ0) (cuts_nil) (by kernel_rfl) (by kernel_rfl) (D := 64) (c := nodeOf Tryd.f99 8387175) (by kernel_rfl) (by kernel_rfl) (fun x κ => by kernel_rfl)
theorem Ginternal_strconv_ParseUint.c32762 (A : Ks) (w0 : World) : CutOk Tryd.prog ⟨Tryd.f99.ntmps, 0, A⟩ w0 (kRet Tryd.prog Tryd.f99.results.toList Ginternal_strconv_ParseUint.rk) (bodyOf Tryd.f99) 32762 (cut Tryd.prog Ginternal_strconv_ParseUint.fr32762 Ginternal_strconv_ParseUint.ou32762 (Ginternal_strconv_ParseUint.T32762 NN)) :=
  loop_ok Ginternal_strconv_ParseUint.hρ (Λ := Ginternal_strconv_ParseUint.Λ1) (cuts_cons (Ginternal_strconv_ParseUint.c8387175 A w0) (cuts_nil)) (by kernel_rfl) (D := 64) (b := loopOf Tryd.f99 32762) (by kernel_rfl) (by kernel_rfl) NN (fun x κ => by kernel_rfl) (fun k x κ => by kernel_rfl)
theorem Ginternal_strconv_ParseUint.c511 (A : Ks) (w0 : World) : CutOk Tryd.prog ⟨Tryd.f99.ntmps, 0, A⟩ w0 (kRet Tryd.prog Tryd.f99.results.toList Ginternal_strconv_ParseUint.rk) (bodyOf Tryd.f99) 511 (cut Tryd.prog Ginternal_strconv_ParseUint.fr511 Ginternal_strconv_ParseUint.ou511 (Ginternal_strconv_ParseUint.T511)) :=
  cut_ok Ginternal_strconv_ParseUint.hρ (Λ := Ginternal_strconv_ParseUint.Λ2) (cuts_cons (Ginternal_strconv_ParseUint.c32762 A w0) (cuts_cons (Ginternal_strconv_ParseUint.c8387175 A w0) (cuts_nil))) (by kernel_rfl) (by kernel_rfl) (D := 64) (c := nodeOf Tryd.f99 511) (by kernel_rfl) (by kernel_rfl) (fun x κ => by kernel_rfl)
theorem Ginternal_strconv_ParseUint.c127 (A : Ks) (w0 : World) : CutOk Tryd.prog ⟨Tryd.f99.ntmps, 0, A⟩ w0 (kRet Tryd.prog Tryd.f99.results.toList Ginternal_strconv_ParseUint.rk) (bodyOf Tryd.f99) 127 (cut Tryd.prog Ginternal_strconv_ParseUint.fr127 Ginternal_strconv_ParseUint.ou127 (Ginternal_strconv_ParseUint.T127)) :=
  cut_ok Ginternal_strconv_ParseUint.hρ (Λ := Ginternal_strconv_ParseUint.Λ3) (cuts_cons (Ginternal_strconv_ParseUint.c511 A w0) (cuts_cons (Ginternal_strconv_ParseUint.c32762 A w0) (cuts_cons (Ginternal_strconv_ParseUint.c8387175 A w0) (cuts_nil)))) (by kernel_rfl) (by kernel_rfl) (D := 64) (c := nodeOf Tryd.f99 127) (by kernel_rfl) (by kernel_rfl) (fun x κ => by kernel_rfl)
theorem Ginternal_strconv_ParseUint.c63 (A : Ks) (w0 : World) : CutOk Tryd.prog ⟨Tryd.f99.ntmps, 0, A⟩ w0 (kRet Tryd.prog Tryd.f99.results.toList Ginternal_strconv_ParseUint.rk) (bodyOf Tryd.f99) 63 (cut Tryd.prog Ginternal_strconv_ParseUint.fr63 Ginternal_strconv_ParseUint.ou63 (Ginternal_strconv_ParseUint.T63)) :=
  cut_ok Ginternal_strconv_ParseUint.hρ (Λ := Ginternal_strconv_ParseUint.Λ4) (cuts_cons (Ginternal_strconv_ParseUint.c127 A w0) (cuts_cons (Ginternal_strconv_ParseUint.c511 A w0) (cuts_cons (Ginternal_strconv_ParseUint.c32762 A w0) (cuts_cons (Ginternal_strconv_ParseUint.c8387175 A w0) (cuts_nil))))) (by kernel_rfl) (by kernel_rfl) (D := 64) (c := nodeOf Tryd.f99 63) (by kernel_rfl) (by kernel_rfl) (fun x κ => by kernel_rfl)
theorem Ginternal_strconv_ParseUint.spec : Spec Tryd.prog 99 Ginternal_strconv_ParseUint.pk Ginternal_strconv_ParseUint.rk Ginternal_strconv_ParseUint.g :=
  spec_of_body (fn := Tryd.f99) (c := bodyOf Tryd.f99) (by kernel_rfl) (by kernel_rfl) (by kernel_rfl) (by kernel_rfl) (ρ := Ginternal_strconv_ParseUint.ρ) Ginternal_strconv_ParseUint.hρ (Λ := Ginternal_strconv_ParseUint.Λ) (fun A w0 => cuts_cons (Ginternal_strconv_ParseUint.c63 A w0) (cuts_cons (Ginternal_strconv_ParseUint.c127 A w0) (cuts_cons (Ginternal_strconv_ParseUint.c511 A w0) (cuts_cons (Ginternal_strconv_ParseUint.c32762 A w0) (cuts_cons (Ginternal_strconv_ParseUint.c8387175 A w0) (cuts_nil)))))) (fun x => by kernel_rfl)

/-! ### 86 strconv.ParseUint -/
def Gstrconv_ParseUint.f (a0 : ByteArray) (a1 : Int) (a2 : Int) : Option (Int × Nat) :=
  (Ginternal_strconv_ParseUint.f a0 a1 a2).bind fun r1 => bif (!(Nat.beq r1.2 0)) then (Gstrconv_toError.f str506172736555696e74 a0 a1 a2 r1.2).bind fun r2 => some (r1.1, r2) else some (r1.1, 0)
def Gstrconv_ParseUint.pk : List FK := [.str, .int .i64, .int .i64]
def Gstrconv_ParseUint.rk : List FK := [.int .u64, .err]
def Gstrconv_ParseUint.g : Tp Gstrconv_ParseUint.pk → Option (Tp Gstrconv_ParseUint.rk) := fun x => Gstrconv_ParseUint.f x.1 x.2.1 x.2.2
def Gstrconv_ParseUint.ρ : List (Entry (Tp Gstrconv_ParseUint.rk)) := [entry _ Tryd.prog 99 Ginternal_strconv_ParseUint.pk Ginternal_strconv_ParseUint.rk Ginternal_strconv_ParseUint.g, entry _ Tryd.prog 100 Gstrconv_toError.pk Gstrconv_toError.rk Gstrconv_toError.g]
theorem Gstrconv_ParseUint.hρ : ∀ e ∈ Gstrconv_ParseUint.ρ, EntryOk Tryd.prog e :=
  ents_cons (ent (fn := Tryd.f99) Ginternal_strconv_ParseUint.spec (by kernel_rfl) (by kernel_rfl) (by kernel_rfl) (by kernel_rfl)) (ents_cons (ent (fn := Tryd.f100) Gstrconv_toError.spec (by kernel_rfl) (by kernel_rfl) (by kernel_rfl) (by kernel_rfl)) (ents_nil))
def Gstrconv_ParseUint.Λ : Cuts (Tp Gstrconv_ParseUint.rk) := cutsOf []
theorem Gstrconv_ParseUint.spec : Spec Tryd.prog 86 Gstrconv_ParseUint.pk Gstrconv_ParseUint.rk Gstrconv_ParseUint.g :=
  spec_of_body (fn := Tryd.f86) (c := bodyOf Tryd.f86) (by kernel_rfl) (by kernel_rfl) (by kernel_rfl) (by kernel_rfl) (ρ := Gstrconv_ParseUint.ρ) Gstrconv_ParseUint.hρ (Λ := Gstrconv_ParseUint.Λ) (fun A w0 => cuts_nil) (fun x => by kernel_rfl)

/-! ### (84, None, 85) (*bluebell/lex.scanner).run -/
def Glex_scanner__run_85.l28 : Nat → ((ByteArray × Int × List (D × D) × Unit)) → Unit → Int → (((ByteArray × Int × List (D × D) × Unit) × Int) → Option (ByteArray × (ByteArray × Int × List (D × D) × Unit))) → Option (ByteArray × (ByteArray × Int × List (D × D) × Unit))
  | 0, _, _, _, _ => none
  | k + 1, v0, v1, v5, κ1 =>
    gd ((!(decide (v0.2.1 < (v0.1.size : Int)))) || (inB v0.2.1 v0.1.size)) ((bif (decide (v0.2.1 < (v0.1.size : Int))) then Glex_hex.f (bt v0.1 v0.2.1.toNat) else some false).bind fun r1 => bif ((decide (v0.2.1 < (v0.1.size : Int))) && r1) then Glex_scanner__run_85.l28 k (v0.1, (IntKind.i64.wrap (v0.2.1 + 1)), v0.2.2.1, ()) () v5 κ1 else κ1 ((v0.1, v0.2.1, v0.2.2.1, ()), v5))
def Glex_scanner__run_85.f (a0 : (ByteArray × Int × List (D × D) × Unit)) (a1 : Unit) : Option (ByteArray × (ByteArray × Int × List (D × D) × Unit)) :=
  Glex_scanner__run_85.l28 NN (a0.1, a0.2.1, a0.2.2.1, ()) () a0.2.1 (fun y2 => gd (decide (0 ≤ y2.2) && (decide (y2.2 ≤ y2.1.2.1) && decide (y2.1.2.1 ≤ (y2.1.1.size : Int)))) (some ((y2.1.1.extract y2.2.toNat y2.1.2.1.toNat), (y2.1.1, y2.1.2.1, y2.1.2.2.1, ()))))
def Glex_scanner__run_85.pk : List FK := [.bx (.cn (.str) (.cn (.int .i64) (.cn (.mp 9 4) (.ce)))), .fn 85]
def Glex_scanner__run_85.rk : List FK := [.str, .bx (.cn (.str) (.cn (.int .i64) (.cn (.mp 9 4) (.ce))))]
def Glex_scanner__run_85.g : Tp Glex_scanner__run_85.pk → Option (Tp Glex_scanner__run_85.rk) := fun x => Glex_scanner__run_85.f x.1 x.2
def Glex_scanner__run_85.ρ : List (Entry (Tp Glex_scanner__run_85.rk)) := [entry _ Tryd.prog 85 Glex_hex.pk Glex_hex.rk Glex_hex.g]
theorem Glex_scanner__run_85.hρ : ∀ e ∈ Glex_scanner__run_85.ρ, EntryOk Tryd.prog e :=
  ents_cons (ent (fn := Tryd.f85) Glex_hex.spec (by kernel_rfl) (by kernel_rfl) (by kernel_rfl) (by kernel_rfl)) (ents_nil)
def Glex_scanner__run_85.fr28 : Fr := [(0, .bx (.cn (.str) (.cn (.int .i64) (.cn (.mp 9 4) (.ce))))), (1, .fn 85), (5, .int .i64)]
def Glex_scanner__run_85.ou28 : Outs := [(1, [(0, .bx (.cn (.str) (.cn (.int .i64) (.cn (.mp 9 4) (.ce))))), (5, .int .i64)])]
def Glex_scanner__run_85.T28 (k : Nat) (x : Glex_scanner__run_85.fr28.T) (κ : Kp (Tp Glex_scanner__run_85.rk) Glex_scanner__run_85.ou28) : Option (Tp Glex_scanner__run_85.rk) := Glex_scanner__run_85.l28 k x.1 x.2.1 x.2.2 κ.1
def Glex_scanner__run_85.Λ0 : Cuts (Tp Glex_scanner__run_85.rk) := cutsOf []
def Glex_scanner__run_85.Λ : Cuts (Tp Glex_scanner__run_85.rk) := cutsOf [(28, cut Tryd.prog Glex_scanner__run_85.fr28 Glex_scanner__run_85.ou28 (Glex_scanner__run_85.T28 NN))]
theorem Glex_scanner__run_85.c28 (A : Ks) (w0 : World) : CutOk Tryd.prog ⟨Tryd.f84.ntmps, 2, A⟩ w0 (kRetIO Tryd.prog [0] Tryd.f84.results.toList Glex_scanner__run_85.rk) (bodyOf Tryd.f84) 28 (cut Tryd.prog Glex_scanner__run_85.fr28 Glex_scanner__run_85.ou28 (Glex_scanner__run_85.T28 NN)) :=
  loop_ok Glex_scanner__run_85.hρ (Λ := Glex_scanner__run_85.Λ0) (cuts_nil) (by kernel_rfl) (D := 64) (b := loopOf Tryd.f84 28) (by kernel_rfl) (by kernel_rfl) NN (fun x κ => by kernel_rfl) (fun k x κ => by kernel_rfl)
theorem Glex_scanner__run_85.spec : SpecIO Tryd.prog 84 Glex_scanner__run_85.pk [0] Glex_scanner__run_85.rk Glex_scanner__run_85.g :=
  spec_io_of_body (fn := Tryd.f84) (c := bodyOf Tryd.f84) (by kernel_rfl) (by kernel_rfl) (by kernel_rfl) (np := 2) (by kernel_rfl) (by kernel_rfl) (by kernel_rfl) (ρ := Glex_scanner__run_85.ρ) Glex_scanner__run_85.hρ (Λ := Glex_scanner__run_85.Λ) (fun A w0 => cuts_cons (Glex_scanner__run_85.c28 A w0) (cuts_nil)) (fun x => by kernel_rfl)

/-! ### (84, None, 58) (*bluebell/lex.scanner).run -/
def Glex_scanner__run_58.l28 : Nat → ((ByteArray × Int × List (D × D) × Unit)) → Unit → Int → (((ByteArray × Int × List (D × D) × Unit) × Int) → Option (ByteArray × (ByteArray × Int × List (D × D) × Unit))) → Option (ByteArray × (ByteArray × Int × List (D × D) × Unit))
  | 0, _, _, _, _ => none
  | k + 1, v0, v1, v5, κ1 =>
    gd ((!(decide (v0.2.1 < (v0.1.size : Int)))) || (inB v0.2.1 v0.1.size)) ((bif (decide (v0.2.1 < (v0.1.size : Int))) then Glex_digit.f (bt v0.1 v0.2.1.toNat) else some false).bind fun r1 => bif ((decide (v0.2.1 < (v0.1.size : Int))) && r1) then Glex_scanner__run_58.l28 k (v0.1, (IntKind.i64.wrap (v0.2.1 + 1)), v0.2.2.1, ()) () v5 κ1 else κ1 ((v0.1, v0.2.1, v0.2.2.1, ()), v5))
def Glex_scanner__run_58.f (a0 : (ByteArray × Int × List (D × D) × Unit)) (a1 : Unit) : Option (ByteArray × (ByteArray × Int × List (D × D) × Unit)) :=
  Glex_scanner__run_58.l28 NN (a0.1, a0.2.1, a0.2.2.1, ()) () a0.2.1 (fun y2 => gd (decide (0 ≤ y2.2) && (decide (y2.2 ≤ y2.1.2.1) && decide (y2.1.2.1 ≤ (y2.1.1.size : Int)))) (some ((y2.1.1.extract y2.2.toNat y2.1.2.1.toNat), (y2.1.1, y2.1.2.1, y2.1.2.2.1, ()))))
def Glex_scanner__run_58.pk : List FK := [.bx (.cn (.str) (.cn (.int .i64) (.cn (.mp 9 4) (.ce)))), .fn 58]
def Glex_scanner__run_58.rk : List FK := [.str, .bx (.cn (.str) (.cn (.int .i64) (.cn (.mp 9 4) (.ce))))]
def Glex_scanner__run_58.g : Tp Glex_scanner__run_58.pk → Option (Tp Glex_scanner__run_58.rk) := fun x => Glex_scanner__run_58.f x.1 x.2
def Glex_scanner__run_58.ρ : List (Entry (Tp Glex_scanner__run_58.rk)) := [entry _ Tryd.prog 58 Glex_digit.pk Glex_digit.rk Glex_digit.g]
theorem Glex_scanner__run_58.hρ : ∀ e ∈ Glex_scanner__run_58.ρ, EntryOk Tryd.prog e :=
  ents_cons (ent (fn := Tryd.f58) Glex_digit.spec (by kernel_rfl) (by kernel_rfl) (by kernel_rfl) (by kernel_rfl)) (ents_nil)
def Glex_scanner__run_58.fr28 : Fr := [(0, .bx (.cn (.str) (.cn (.int .i64) (.cn (.mp 9 4) (.ce))))), (1, .fn 58), (5, .int .i64)]
def Glex_scanner__run_58.ou28 : Outs := [(1, [(0, .bx (.cn (.str) (.cn (.int .i64) (.cn (.mp 9 4) (.ce))))), (5, .int .i64)])]
def Glex_scanner__run_58.T28 (k : Nat) (x : Glex_scanner__run_58.fr28.T) (κ : Kp (Tp Glex_scanner__run_58.rk) Glex_scanner__run_58.ou28) : Option (Tp Glex_scanner__run_58.rk) := Glex_scanner__run_58.l28 k x.1 x.2.1 x.2.2 κ.1
def Glex_scanner__run_58.Λ0 : Cuts (Tp Glex_scanner__run_58.rk) := cutsOf []
def Glex_scanner__run_58.Λ : Cuts (Tp Glex_scanner__run_58.rk) := cutsOf [(28, cut Tryd.prog Glex_scanner__run_58.fr28 Glex_scanner__run_58.ou28 (Glex_scanner__run_58.T28 NN))]
theorem Glex_scanner__run_58.c28 (A : Ks) (w0 : World) : CutOk Tryd.prog ⟨Tryd.f84.ntmps, 2, A⟩ w0 (kRetIO Tryd.prog [0] Tryd.f84.results.toList Glex_scanner__run_58.rk) (bodyOf Tryd.f84) 28 (cut Tryd.prog Glex_scanner__run_58.fr28 Glex_scanner__run_58.ou28 (Glex_scanner__run_58.T28 NN)) :=
  loop_ok Glex_scanner__run_58.hρ (Λ := Glex_scanner__run_58.Λ0) (cuts_nil) (by kernel_rfl) (D := 64) (b := loopOf Tryd.f84 28) (by kernel_rfl) (by kernel_rfl) NN (fun x κ => by kernel_rfl) (fun k x κ => by kernel_rfl)
theorem Glex_scanner__run_58.spec : SpecIO Tryd.prog 84 Glex_scanner__run_58.pk [0] Glex_scanner__run_58.rk Glex_scanner__run_58.g :=
  spec_io_of_body (fn := Tryd.f84) (c := bodyOf Tryd.f84) (by kernel_rfl) (by kernel_rfl) (by kernel_rfl) (np := 2) (by kernel_rfl) (by kernel_rfl) (by kernel_rfl) (ρ := Glex_scanner__run_58.ρ) Glex_scanner__run_58.hρ (Λ := Glex_scanner__run_58.Λ) (fun A w0 => cuts_cons (Glex_scanner__run_58.c28 A w0) (cuts_nil)) (fun x => by kernel_rfl)

/-! ### 63 (*bluebell/lex.scanner).number -/
def Glex_scanner__number.f (a0 : (ByteArray × Int × List (D × D) × Unit)) : Option (D × Int × (ByteArray × Int × List (D × D) × Unit)) :=
  gd (inB a0.2.1 a0.1.size) (bif ((bt a0.1 a0.2.1.toNat) == 35) then (Glex_scanner__run_85.f (a0.1, (IntKind.i64.wrap (a0.2.1 + 1)), a0.2.2.1, ()) ()).bind fun r1 => bif (r1.1.toList == strNil.toList) then some (.r [.i 2, .s ByteArray.empty, .i 0, .i a0.2.1], 20, (r1.2.1, r1.2.2.1, r1.2.2.2.1, ())) else (Gstrconv_ParseUint.f r1.1 16 64).bind fun r2 => bif ((!(Nat.beq r2.2 0)) || (decide (r2.1 > (IntKind.u64.wrap 4294967295)))) then some (.r [.i 2, .s ByteArray.empty, .i 0, .i a0.2.1], 22, (r1.2.1, r1.2.2.1, r1.2.2.2.1, ())) else bif decide ((IntKind.i64.wrap r2.1) ≥ 2147483648) then some (.r [.i 2, .s ByteArray.empty, .i (IntKind.i64.wrap ((IntKind.i64.wrap r2.1) - 4294967296)), .i a0.2.1], 0, (r1.2.1, r1.2.2.1, r1.2.2.2.1, ())) else some (.r [.i 2, .s ByteArray.empty, .i (IntKind.i64.wrap r2.1), .i a0.2.1], 0, (r1.2.1, r1.2.2.1, r1.2.2.2.1, ())) else (Glex_scanner__run_58.f (a0.1, a0.2.1, a0.2.2.1, ()) ()).bind fun r3 => bif (r3.1.toList == strNil.toList) then some (.r [.i 2, .s ByteArray.empty, .i 0, .i a0.2.1], 20, (r3.2.1, r3.2.2.1, r3.2.2.2.1, ())) else (Gstrconv_ParseUint.f r3.1 10 64).bind fun r4 => bif ((!(Nat.beq r4.2 0)) || (decide (r4.1 > (IntKind.u64.wrap 2147483647)))) then some (.r [.i 2, .s ByteArray.empty, .i 0, .i a0.2.1], 22, (r3.2.1, r3.2.2.1, r3.2.2.2.1, ())) else bif decide ((IntKind.i64.wrap r4.1) ≥ 2147483648) then some (.r [.i 2, .s ByteArray.empty, .i (IntKind.i64.wrap ((IntKind.i64.wrap r4.1) - 4294967296)), .i a0.2.1], 0, (r3.2.1, r3.2.2.1, r3.2.2.2.1, ())) else some (.r [.i 2, .s ByteArray.empty, .i (IntKind.i64.wrap r4.1), .i a0.2.1], 0, (r3.2.1, r3.2.2.1, r3.2.2.2.1, ())))
def Glex_scanner__number.pk : List FK := [.bx (.cn (.str) (.cn (.int .i64) (.cn (.mp 9 4) (.ce))))]
def Glex_scanner__number.rk : List FK := [.st 33, .int .i64, .bx (.cn (.str) (.cn (.int .i64) (.cn (.mp 9 4) (.ce))))]
def Glex_scanner__number.g : Tp Glex_scanner__number.pk → Option (Tp Glex_scanner__number.rk) := fun x => Glex_scanner__number.f x
def Glex_scanner__number.ρ : List (Entry (Tp Glex_scanner__number.rk)) := [altE (isFn 1 85) (entryIO _ Tryd.prog 84 Glex_scanner__run_85.pk Glex_scanner__run_85.rk 0 Glex_scanner__run_85.g) (entryIO _ Tryd.prog 84 Glex_scanner__run_58.pk Glex_scanner__run_58.rk 0 Glex_scanner__run_58.g), entry _ Tryd.prog 86 Gstrconv_ParseUint.pk Gstrconv_ParseUint.rk Gstrconv_ParseUint.g]
theorem Glex_scanner__number.hρ : ∀ e ∈ Glex_scanner__number.ρ, EntryOk Tryd.prog e :=
  ents_cons (altE_ok (entIO (fn := Tryd.f84) Glex_scanner__run_85.spec (by kernel_rfl) (by kernel_rfl) (by kernel_rfl)) (entIO (fn := Tryd.f84) Glex_scanner__run_58.spec (by kernel_rfl) (by kernel_rfl) (by kernel_rfl)) rfl) (ents_cons (ent (fn := Tryd.f86) Gstrconv_ParseUint.spec (by kernel_rfl) (by kernel_rfl) (by kernel_rfl) (by kernel_rfl)) (ents_nil))
def Glex_scanner__number.Λ : Cuts (Tp Glex_scanner__number.rk) := cutsOf []
theorem Glex_scanner__number.spec : SpecIO Tryd.prog 63 Glex_scanner__number.pk [0] Glex_scanner__number.rk Glex_scanner__number.g :=
  spec_io_of_body (fn := Tryd.f63) (c := bodyOf Tryd.f63) (by kernel_rfl) (by kernel_rfl) (by kernel_rfl) (np := 1) (by kernel_rfl) (by kernel_rfl) (by kernel_rfl) (ρ := Glex_scanner__number.ρ) Glex_scanner__number.hρ (Λ := Glex_scanner__number.Λ) (fun A w0 => cuts_nil) (fun x => by kernel_rfl)

/-! ### 87 (*bluebell/lex.scanner).char -/
def Glex_scanner__char.f (a0 : (ByteArray × Int × List (D × D) × Unit)) (a1 : Int) : Option (Int × Bool × (ByteArray × Int × List (D × D) × Unit)) :=
  bif decide (a0.2.1 ≥ (a0.1.size : Int)) then some (0, false, (a0.1, a0.2.1, a0.2.2.1, ())) else gd (inB a0.2.1 a0.1.size) (bif (((decide ((bt a0.1 a0.2.1.toNat) < 32)) || (decide ((bt a0.1 a0.2.1.toNat) > 126))) || ((bt a0.1 a0.2.1.toNat) == a1)) then some (0, false, (a0.1, (IntKind.i64.wrap (a0.2.1 + 1)), a0.2.2.1, ())) else bif ((bt a0.1 a0.2.1.toNat) != 42) then some ((bt a0.1 a0.2.1.toNat), true, (a0.1, (IntKind.i64.wrap (a0.2.1 + 1)), a0.2.2.1, ())) else bif decide ((IntKind.i64.wrap (a0.2.1 + 1)) ≥ (a0.1.size : Int)) then some (0, false, (a0.1, (IntKind.i64.wrap (a0.2.1 + 1)), a0.2.2.1, ())) else gd (inB (IntKind.i64.wrap (a0.2.1 + 1)) a0.1.size) ((Gstrings_IndexByte.f str6e74732a2722 (bt a0.1 (IntKind.i64.wrap (a0.2.1 + 1)).toNat)).bind fun r1 => bif decide (r1 < 0) then some (0, false, (a0.1, (IntKind.i64.wrap ((IntKind.i64.wrap (a0.2.1 + 1)) + 1)), a0.2.2.1, ())) else gd (inB r1 str0a09202a2722.size) (some ((bt str0a09202a2722 r1.toNat), true, (a0.1, (IntKind.i64.wrap ((IntKind.i64.wrap (a0.2.1 + 1)) + 1)), a0.2.2.1, ())))))
def Glex_scanner__char.pk : List FK := [.bx (.cn (.str) (.cn (.int .i64) (.cn (.mp 9 4) (.ce)))), .int .u8]
def Glex_scanner__char.rk : List FK := [.int .u8, .bool, .bx (.cn (.str) (.cn (.int .i64) (.cn (.mp 9 4) (.ce))))]
def Glex_scanner__char.g : Tp Glex_scanner__char.pk → Option (Tp Glex_scanner__char.rk) := fun x => Glex_scanner__char.f x.1 x.2
def Glex_scanner__char.ρ : List (Entry (Tp Glex_scanner__char.rk)) := [entry _ Tryd.prog 46 Gstrings_IndexByte.pk Gstrings_IndexByte.rk Gstrings_IndexByte.g]
theorem Glex_scanner__char.hρ : ∀ e ∈ Glex_scanner__char.ρ, EntryOk Tryd.prog e :=
  ents_cons (ent (fn := Tryd.f46) Gstrings_IndexByte.spec (by kernel_rfl) (by kernel_rfl) (by kernel_rfl) (by kernel_rfl)) (ents_nil)
def Glex_scanner__char.Λ : Cuts (Tp Glex_scanner__char.rk) := cutsOf []
theorem Glex_scanner__char.spec : SpecIO Tryd.prog 87 Glex_scanner__char.pk [0] Glex_scanner__char.rk Glex_scanner__char.g :=
  spec_io_of_body (fn := Tryd.f87) (c := bodyOf Tryd.f87) (by kernel_rfl) (by kernel_rfl) (by kernel_rfl) (np := 2) (by kernel_rfl) (by kernel_rfl) (by kernel_rfl) (ρ := Glex_scanner__char.ρ) Glex_scanner__char.hρ (Λ := Glex_scanner__char.Λ) (fun A w0 => cuts_nil) (fun x => by kernel_rfl)

/-! ### 64 (*bluebell/lex.scanner).character -/
def Glex_scanner__character.f (a0 : (ByteArray × Int × List (D × D) × Unit)) : Option (D × Int × (ByteArray × Int × List (D × D) × Unit)) :=
  (Glex_scanner__char.f (a0.1, (IntKind.i64.wrap (a0.2.1 + 1)), a0.2.2.1, ()) 39).bind fun r1 => gd ((!(!((!r1.2.1) || (decide (r1.2.2.2.1 ≥ (r1.2.2.1.size : Int)))))) || (inB r1.2.2.2.1 r1.2.2.1.size)) (bif (((!r1.2.1) || (decide (r1.2.2.2.1 ≥ (r1.2.2.1.size : Int)))) || ((bt r1.2.2.1 r1.2.2.2.1.toNat) != 39)) then some (.r [.i 2, .s ByteArray.empty, .i 0, .i a0.2.1], 21, (r1.2.2.1, r1.2.2.2.1, r1.2.2.2.2.1, ())) else some (.r [.i 2, .s ByteArray.empty, .i (IntKind.i64.wrap r1.1), .i a0.2.1], 0, (r1.2.2.1, (IntKind.i64.wrap (r1.2.2.2.1 + 1)), r1.2.2.2.2.1, ())))
def Glex_scanner__character.pk : List FK := [.bx (.cn (.str) (.cn (.int .i64) (.cn (.mp 9 4) (.ce))))]
def Glex_scanner__character.rk : List FK := [.st 33, .int .i64, .bx (.cn (.str) (.cn (.int .i64) (.cn (.mp 9 4) (.ce))))]
def Glex_scanner__character.g : Tp Glex_scanner__character.pk → Option (Tp Glex_scanner__character.rk) := fun x => Glex_scanner__character.f x
def Glex_scanner__character.ρ : List (Entry (Tp Glex_scanner__character.rk)) := [entryIO _ Tryd.prog 87 Glex_scanner__char.pk Glex_scanner__char.rk 0 Glex_scanner__char.g]
theorem Glex_scanner__character.hρ : ∀ e ∈ Glex_scanner__character.ρ, EntryOk Tryd.prog e :=
  ents_cons (entIO (fn := Tryd.f87) Glex_scanner__char.spec (by kernel_rfl) (by kernel_rfl) (by kernel_rfl)) (ents_nil)
def Glex_scanner__character.Λ : Cuts (Tp Glex_scanner__character.rk) := cutsOf []
theorem Glex_scanner__character.spec : SpecIO Tryd.prog 64 Glex_scanner__character.pk [0] Glex_scanner__character.rk Glex_scanner__character.g :=
  spec_io_of_body (fn := Tryd.f64) (c := bodyOf Tryd.f64) (by kernel_rfl) (by kernel_rfl) (by kernel_rfl) (np := 1) (by kernel_rfl) (by kernel_rfl) (by kernel_rfl) (ρ := Glex_scanner__character.ρ) Glex_scanner__character.hρ (Λ := Glex_scanner__character.Λ) (fun A w0 => cuts_nil) (fun x => by kernel_rfl)

/-! ### 65 (*bluebell/lex.scanner).text -/
def Glex_scanner__text.l124 : Nat → ((ByteArray × Int × List (D × D) × Unit)) → D → D → (List D) → (((ByteArray × Int × List (D × D) × Unit) × D × D × List D) → Option (D × Int × (ByteArray × Int × List (D × D) × Unit))) → Option (D × Int × (ByteArray × Int × List (D × D) × Unit))
  | 0, _, _, _, _, _ => none
  | k + 1, v0, v2, v4, v5, κ1 =>
    gd ((!(!(decide (v0.2.1 ≥ (v0.1.size : Int))))) || (inB v0.2.1 v0.1.size)) (bif ((decide (v0.2.1 ≥ (v0.1.size : Int))) || ((bt v0.1 v0.2.1.toNat) != 34)) then (Glex_scanner__char.f (v0.1, v0.2.1, v0.2.2.1, ()) 34).bind fun r1 => bif (!r1.2.1) then some (v4, 21, (r1.2.2.1, r1.2.2.2.1, r1.2.2.2.2.1, ())) else gd (Nat.ble (v5.length + ([.i r1.1] : List D).length) lim) (Glex_scanner__text.l124 k (r1.2.2.1, r1.2.2.2.1, r1.2.2.2.2.1, ()) v2 v4 (v5 ++ ([.i r1.1] : List D)) κ1) else κ1 ((v0.1, v0.2.1, v0.2.2.1, ()), v2, v4, v5))
def Glex_scanner__text.f (a0 : (ByteArray × Int × List (D × D) × Unit)) : Option (D × Int × (ByteArray × Int × List (D × D) × Unit)) :=
  Glex_scanner__text.l124 NN (a0.1, (IntKind.i64.wrap (a0.2.1 + 1)), a0.2.2.1, ()) (.r [.i 0, .s ByteArray.empty, .i 0, .i 0]) (.r [.i 3, .s ByteArray.empty, .i 0, .i a0.2.1]) [] (fun y2 => bif decide ((y2.2.2.2.length : Int) > 100) then some (y2.2.2.1, 2, (y2.1.1, (IntKind.i64.wrap (y2.1.2.1 + 1)), y2.1.2.2.1, ())) else some (.r [.i ((y2.2.2.1.cell 0).int), .s (bstr y2.2.2.2), .i ((y2.2.2.1.cell 2).int), .i ((y2.2.2.1.cell 3).int)], 0, (y2.1.1, (IntKind.i64.wrap (y2.1.2.1 + 1)), y2.1.2.2.1, ())))
def Glex_scanner__text.pk : List FK := [.bx (.cn (.str) (.cn (.int .i64) (.cn (.mp 9 4) (.ce))))]
def Glex_scanner__text.rk : List FK := [.st 33, .int .i64, .bx (.cn (.str) (.cn (.int .i64) (.cn (.mp 9 4) (.ce))))]
def Glex_scanner__text.g : Tp Glex_scanner__text.pk → Option (Tp Glex_scanner__text.rk) := fun x => Glex_scanner__text.f x
def Glex_scanner__text.ρ : List (Entry (Tp Glex_scanner__text.rk)) := [entryIO _ Tryd.prog 87 Glex_scanner__char.pk Glex_scanner__char.rk 0 Glex_scanner__char.g]
theorem Glex_scanner__text.hρ : ∀ e ∈ Glex_scanner__text.ρ, EntryOk Tryd.prog e :=
  ents_cons (entIO (fn := Tryd.f87) Glex_scanner__char.spec (by kernel_rfl) (by kernel_rfl) (by kernel_rfl)) (ents_nil)
def Glex_scanner__text.fr124 : Fr := [(0, .bx (.cn (.str) (.cn (.int .i64) (.cn (.mp 9 4) (.ce))))), (2, .bx (.st 33)), (4, .bx (.st 33)), (5, .own 5)]
def Glex_scanner__text.ou124 : Outs := [(1, [(0, .bx (.cn (.str) (.cn (.int .i64) (.cn (.mp 9 4) (.ce))))), (2, .bx (.st 33)), (4, .bx (.st 33)), (5, .own 5)])]
def Glex_scanner__text.T124 (k : Nat) (x : Glex_scanner__text.fr124.T) (κ : Kp (Tp Glex_scanner__text.rk) Glex_scanner__text.ou124) : Option (Tp Glex_scanner__text.rk) := Glex_scanner__text.l124 k x.1 x.2.1 x.2.2.1 x.2.2.2 κ.1
def Glex_scanner__text.Λ0 : Cuts (Tp Glex_scanner__text.rk) := cutsOf []
def Glex_scanner__text.Λ : Cuts (Tp Glex_scanner__text.rk) := cutsOf [(124, cut Tryd.prog Glex_scanner__text.fr124 Glex_scanner__text.ou124 (Glex_scanner__text.T124 NN))]
theorem Glex_scanner__text.c124 (A : Ks) (w0 : World) : CutOk Tryd.prog ⟨Tryd.f65.ntmps, 1, A⟩ w0 (kRetIO Tryd.prog [0] Tryd.f65.results.toList Glex_scanner__text.rk) (bodyOf Tryd.f65) 124 (cut Tryd.prog Glex_scanner__text.fr124 Glex_scanner__text.ou124 (Glex_scanner__text.T124 NN)) :=
  loop_ok Glex_scanner__text.hρ (Λ := Glex_scanner__text.Λ0) (cuts_nil) (by kernel_rfl) (D := 64) (b := loopOf Tryd.f65 124) (by kernel_rfl) (by kernel_rfl) NN (fun x κ => by kernel_rfl) (fun k x κ => by kernel_rfl)
theorem Glex_scanner__text.spec : SpecIO Tryd.prog 65 Glex_scanner__text.pk [0] Glex_scanner__text.rk Glex_scanner__text.g :=
  spec_io_of_body (fn := Tryd.f65) (c := bodyOf Tryd.f65) (by kernel_rfl) (by kernel_rfl) (by kernel_rfl) (np := 1) (by kernel_rfl) (by kernel_rfl) (by kernel_rfl) (ρ := Glex_scanner__text.ρ) Glex_scanner__text.hρ (Λ := Glex_scanner__text.Λ) (fun A w0 => cuts_cons (Glex_scanner__text.c124 A w0) (cuts_nil)) (fun x => by kernel_rfl)

/-! ### 42 (*bluebell/lex.scanner).token -/
def Glex_scanner__token.f (a0 : (ByteArray × Int × List (D × D) × Unit)) : Option (D × Int × (ByteArray × Int × List (D × D) × Unit)) :=
  gd (inB a0.2.1 a0.1.size) ((Glex_small.f (bt a0.1 a0.2.1.toNat)).bind fun r1 => bif r1 then (Glex_scanner__name.f (a0.1, a0.2.1, a0.2.2.1, ())).bind fun r2 => some (r2.1, r2.2.1, (r2.2.2.1, r2.2.2.2.1, r2.2.2.2.2.1, ())) else (Glex_digit.f (bt a0.1 a0.2.1.toNat)).bind fun r3 => bif (r3 || ((bt a0.1 a0.2.1.toNat) == 35)) then (Glex_scanner__number.f (a0.1, a0.2.1, a0.2.2.1, ())).bind fun r4 => some (r4.1, r4.2.1, (r4.2.2.1, r4.2.2.2.1, r4.2.2.2.2.1, ())) else bif ((bt a0.1 a0.2.1.toNat) == 39) then (Glex_scanner__character.f (a0.1, a0.2.1, a0.2.2.1, ())).bind fun r5 => some (r5.1, r5.2.1, (r5.2.2.1, r5.2.2.2.1, r5.2.2.2.2.1, ())) else bif ((bt a0.1 a0.2.1.toNat) == 34) then (Glex_scanner__text.f (a0.1, a0.2.1, a0.2.2.1, ())).bind fun r6 => some (r6.1, r6.2.1, (r6.2.2.1, r6.2.2.2.1, r6.2.2.2.2.1, ())) else (Glex_scanner__sign.f (a0.1, a0.2.1, a0.2.2.1, ())).bind fun r7 => some (r7.1, r7.2.1, (r7.2.2.1, r7.2.2.2.1, r7.2.2.2.2.1, ())))
def Glex_scanner__token.pk : List FK := [.bx (.cn (.str) (.cn (.int .i64) (.cn (.mp 9 4) (.ce))))]
def Glex_scanner__token.rk : List FK := [.st 33, .int .i64, .bx (.cn (.str) (.cn (.int .i64) (.cn (.mp 9 4) (.ce))))]
def Glex_scanner__token.g : Tp Glex_scanner__token.pk → Option (Tp Glex_scanner__token.rk) := fun x => Glex_scanner__token.f x
def Glex_scanner__token.ρ : List (Entry (Tp Glex_scanner__token.rk)) := [entry _ Tryd.prog 35 Glex_small.pk Glex_small.rk Glex_small.g, entryIO _ Tryd.prog 62 Glex_scanner__name.pk Glex_scanner__name.rk 0 Glex_scanner__name.g, entry _ Tryd.prog 58 Glex_digit.pk Glex_digit.rk Glex_digit.g, entryIO _ Tryd.prog 63 Glex_scanner__number.pk Glex_scanner__number.rk 0 Glex_scanner__number.g, entryIO _ Tryd.prog 64 Glex_scanner__character.pk Glex_scanner__character.rk 0 Glex_scanner__character.g, entryIO _ Tryd.prog 65 Glex_scanner__text.pk Glex_scanner__text.rk 0 Glex_scanner__text.g, entryIO _ Tryd.prog 61 Glex_scanner__sign.pk Glex_scanner__sign.rk 0 Glex_scanner__sign.g]
theorem Glex_scanner__token.hρ : ∀ e ∈ Glex_scanner__token.ρ, EntryOk Tryd.prog e :=
  ents_cons (ent (fn := Tryd.f35) Glex_small.spec (by kernel_rfl) (by kernel_rfl) (by kernel_rfl) (by kernel_rfl)) (ents_cons (entIO (fn := Tryd.f62) Glex_scanner__name.spec (by kernel_rfl) (by kernel_rfl) (by kernel_rfl)) (ents_cons (ent (fn := Tryd.f58) Glex_digit.spec (by kernel_rfl) (by kernel_rfl) (by kernel_rfl) (by kernel_rfl)) (ents_cons (entIO (fn := Tryd.f63) Glex_scanner__number.spec (by kernel_rfl) (by kernel_rfl) (by kernel_rfl)) (ents_cons (entIO (fn := Tryd.f64) Glex_scanner__character.spec (by kernel_rfl) (by kernel_rfl) (by kernel_rfl)) (ents_cons (entIO (fn := Tryd.f65) Glex_scanner__text.spec (by kernel_rfl) (by kernel_rfl) (by kernel_rfl)) (ents_cons (entIO (fn := Tryd.f61) Glex_scanner__sign.spec (by kernel_rfl) (by kernel_rfl) (by kernel_rfl)) (ents_nil)))))))
def Glex_scanner__token.Λ : Cuts (Tp Glex_scanner__token.rk) := cutsOf []
theorem Glex_scanner__token.spec : SpecIO Tryd.prog 42 Glex_scanner__token.pk [0] Glex_scanner__token.rk Glex_scanner__token.g :=
  spec_io_of_body (fn := Tryd.f42) (c := bodyOf Tryd.f42) (by kernel_rfl) (by kernel_rfl) (by kernel_rfl) (np := 1) (by kernel_rfl) (by kernel_rfl) (by kernel_rfl) (ρ := Glex_scanner__token.ρ) Glex_scanner__token.hρ (Λ := Glex_scanner__token.Λ) (fun A w0 => cuts_nil) (fun x => by kernel_rfl)

/-! ### 21 bluebell/lex.Scan -/
def Glex_Scan.p7967 (v0 : ByteArray) (v5 : (ByteArray × Int × List (D × D) × Unit)) (v6 : List D) (v7 : D) (v8 : Int) (κ0 : (ByteArray × (ByteArray × Int × List (D × D) × Unit) × List D) → Option (List D × Int × Int)) : Option (List D × Int × Int) :=
  bif (v8 != 0) then some ([], v8, (v7.cell 3).int) else gd (Nat.ble (v6.length + ([v7] : List D).length) lim) (bif (((v7.cell 0).int) == 0) then some ((v6 ++ ([v7] : List D)), 0, 0) else κ0 (v0, (v5.1, v5.2.1, v5.2.2.1, ()), (v6 ++ ([v7] : List D))))
def Glex_Scan.p3983 (v0 : ByteArray) (v5 : (ByteArray × Int × List (D × D) × Unit)) (v6 : List D) (v7 : D) (v8 : Int) (κ0 : (ByteArray × (ByteArray × Int × List (D × D) × Unit) × List D) → Option (List D × Int × Int)) : Option (List D × Int × Int) :=
  bif ((v8 == 0) && ((v6.length : Int) == 20000)) then Glex_Scan.p7967 v0 (v5.1, v5.2.1, v5.2.2.1, ()) v6 v7 2 (fun y4 => κ0 (y4.1, (y4.2.1.1, y4.2.1.2.1, y4.2.1.2.2.1, ()), y4.2.2)) else Glex_Scan.p7967 v0 (v5.1, v5.2.1, v5.2.2.1, ()) v6 v7 v8 (fun y5 => κ0 (y5.1, (y5.2.1.1, y5.2.1.2.1, y5.2.1.2.2.1, ()), y5.2.2))
def Glex_Scan.l62 : Nat → ByteArray → ((ByteArray × Int × List (D × D) × Unit)) → (List D) → Option (List D × Int × Int)
  | 0, _, _, _ => none
  | k + 1, v0, v5, v6 =>
    (Glex_scanner__skip.f (v5.1, v5.2.1, v5.2.2.1, ())).bind fun r2 => bif decide (r2.2.1 < (v0.size : Int)) then (Glex_scanner__token.f (r2.1, r2.2.1, r2.2.2.1, ())).bind fun r3 => Glex_Scan.p3983 v0 (r3.2.2.1, r3.2.2.2.1, r3.2.2.2.2.1, ()) v6 r3.1 r3.2.1 (fun y6 => Glex_Scan.l62 k y6.1 (y6.2.1.1, y6.2.1.2.1, y6.2.1.2.2.1, ()) y6.2.2) else Glex_Scan.p3983 v0 (r2.1, r2.2.1, r2.2.2.1, ()) v6 (.r [.i 0, .s ByteArray.empty, .i 0, .i r2.2.1]) 0 (fun y7 => Glex_Scan.l62 k y7.1 (y7.2.1.1, y7.2.1.2.1, y7.2.1.2.2.1, ()) y7.2.2)
def Glex_Scan.f (a0 : ByteArray) : Option (List D × Int × Int) :=
  bif decide ((a0.size : Int) > 40000) then some ([], 2, 0) else (Glex_keys.f).bind fun r1 => Glex_Scan.l62 NN a0 (a0, 0, r1, ()) []
def Glex_Scan.pk : List FK := [.str]
def Glex_Scan.rk : List FK := [.own 33, .int .i64, .int .i64]
def Glex_Scan.g : Tp Glex_Scan.pk → Option (Tp Glex_Scan.rk) := fun x => Glex_Scan.f x
def Glex_Scan.ρ : List (Entry (Tp Glex_Scan.rk)) := [entry _ Tryd.prog 37 Glex_keys.pk Glex_keys.rk Glex_keys.g, entryIO _ Tryd.prog 41 Glex_scanner__skip.pk Glex_scanner__skip.rk 0 Glex_scanner__skip.g, entryIO _ Tryd.prog 42 Glex_scanner__token.pk Glex_scanner__token.rk 0 Glex_scanner__token.g]
theorem Glex_Scan.hρ : ∀ e ∈ Glex_Scan.ρ, EntryOk Tryd.prog e :=
  ents_cons (ent (fn := Tryd.f37) Glex_keys.spec (by kernel_rfl) (by kernel_rfl) (by kernel_rfl) (by kernel_rfl)) (ents_cons (entIO (fn := Tryd.f41) Glex_scanner__skip.spec (by kernel_rfl) (by kernel_rfl) (by kernel_rfl)) (ents_cons (entIO (fn := Tryd.f42) Glex_scanner__token.spec (by kernel_rfl) (by kernel_rfl) (by kernel_rfl)) (ents_nil)))
def Glex_Scan.fr7967 : Fr := [(0, .str), (5, .bx (.cn (.str) (.cn (.int .i64) (.cn (.mp 9 4) (.ce))))), (6, .own 33), (7, .bx (.st 33)), (8, .int .i64)]
def Glex_Scan.ou7967 : Outs := [(0, [(0, .str), (5, .bx (.cn (.str) (.cn (.int .i64) (.cn (.mp 9 4) (.ce))))), (6, .own 33)])]
def Glex_Scan.T7967 (x : Glex_Scan.fr7967.T) (κ : Kp (Tp Glex_Scan.rk) Glex_Scan.ou7967) : Option (Tp Glex_Scan.rk) := Glex_Scan.p7967 x.1 x.2.1 x.2.2.1 x.2.2.2.1 x.2.2.2.2 κ.1
def Glex_Scan.fr3983 : Fr := [(0, .str), (5, .bx (.cn (.str) (.cn (.int .i64) (.cn (.mp 9 4) (.ce))))), (6, .own 33), (7, .bx (.st 33)), (8, .int .i64)]
def Glex_Scan.ou3983 : Outs := [(0, [(0, .str), (5, .bx (.cn (.str) (.cn (.int .i64) (.cn (.mp 9 4) (.ce))))), (6, .own 33)])]
def Glex_Scan.T3983 (x : Glex_Scan.fr3983.T) (κ : Kp (Tp Glex_Scan.rk) Glex_Scan.ou3983) : Option (Tp Glex_Scan.rk) := Glex_Scan.p3983 x.1 x.2.1 x.2.2.1 x.2.2.2.1 x.2.2.2.2 κ.1
def Glex_Scan.fr62 : Fr := [(0, .str), (5, .bx (.cn (.str) (.cn (.int .i64) (.cn (.mp 9 4) (.ce))))), (6, .own 33)]
def Glex_Scan.ou62 : Outs := []
def Glex_Scan.T62 (k : Nat) (x : Glex_Scan.fr62.T) (κ : Kp (Tp Glex_Scan.rk) Glex_Scan.ou62) : Option (Tp Glex_Scan.rk) := Glex_Scan.l62 k x.1 x.2.1 x.2.2
def Glex_Scan.Λ0 : Cuts (Tp Glex_Scan.rk) := cutsOf []
def Glex_Scan.Λ1 : Cuts (Tp Glex_Scan.rk) := cutsOf [(7967, cut Tryd.prog Glex_Scan.fr7967 Glex_Scan.ou7967 (Glex_Scan.T7967))]
def Glex_Scan.Λ2 : Cuts (Tp Glex_Scan.rk) := cutsOf [(3983, cut Tryd.prog Glex_Scan.fr3983 Glex_Scan.ou3983 (Glex_Scan.T3983)), (7967, cut Tryd.prog Glex_Scan.fr7967 Glex_Scan.ou7967 (Glex_Scan.T7967))]
def Glex_Scan.Λ : Cuts (Tp Glex_Scan.rk) := cutsOf [(62, cut Tryd.prog Glex_Scan.fr62 Glex_Scan.ou62 (Glex_Scan.T62 NN)), (3983, cut Tryd.prog Glex_Scan.fr3983 Glex_Scan.ou3983 (Glex_Scan.T3983)), (7967, cut Tryd.prog Glex_Scan.fr7967 Glex_Scan.ou7967 (Glex_Scan.T7967))]
theorem Glex_Scan.c7967 (A : Ks) (w0 : World) : CutOk Tryd.prog ⟨Tryd.f21.ntmps, 0, A⟩ w0 (kRet Tryd.prog Tryd.f21.results.toList Glex_Scan.rk) (bodyOf Tryd.f21) 7967 (cut Tryd.prog Glex_Scan.fr7967 Glex_Scan.ou7967 (Glex_Scan.T7967)) :=
  cut_ok Glex_Scan.hρ (Λ := Glex_Scan.Λ0) (cuts_nil) (by kernel_rfl) (by kernel_rfl) (D := 64) (c := nodeOf Tryd.f21 7967) (by kernel_rfl) (by kernel_rfl) (fun x κ => by kernel_rfl)
theorem Glex_Scan.c3983 (A : Ks) (w0 : World) : CutOk Tryd.prog ⟨Tryd.f21.ntmps, 0, A⟩ w0 (kRet Tryd.prog Tryd.f21.results.toList Glex_Scan.rk) (bodyOf Tryd.f21) 3983 (cut Tryd.prog Glex_Scan.fr3983 Glex_Scan.ou3983 (Glex_Scan.T3983)) :=
  cut_ok Glex_Scan.hρ (Λ := Glex_Scan.Λ1) (cuts_cons (Glex_Scan.c7967 A w0) (cuts_nil)) (by kernel_rfl) (by kernel_rfl) (D := 64) (c := nodeOf Tryd.f21 3983) (by kernel_rfl) (by kernel_rfl) (fun x κ => by kernel_rfl)
theorem Glex_Scan.c62 (A : Ks) (w0 : World) : CutOk Tryd.prog ⟨Tryd.f21.ntmps, 0, A⟩ w0 (kRet Tryd.prog Tryd.f21.results.toList Glex_Scan.rk) (bodyOf Tryd.f21) 62 (cut Tryd.prog Glex_Scan.fr62 Glex_Scan.ou62 (Glex_Scan.T62 NN)) :=
  loop_ok Glex_Scan.hρ (Λ := Glex_Scan.Λ2) (cuts_cons (Glex_Scan.c3983 A w0) (cuts_cons (Glex_Scan.c7967 A w0) (cuts_nil))) (by kernel_rfl) (D := 64) (b := loopOf Tryd.f21 62) (by kernel_rfl) (by kernel_rfl) NN (fun x κ => by kernel_rfl) (fun k x κ => by kernel_rfl)
theorem Glex_Scan.spec : Spec Tryd.prog 21 Glex_Scan.pk Glex_Scan.rk Glex_Scan.g :=
  spec_of_body (fn := Tryd.f21) (c := bodyOf Tryd.f21) (by kernel_rfl) (by kernel_rfl) (by kernel_rfl) (by kernel_rfl) (ρ := Glex_Scan.ρ) Glex_Scan.hρ (Λ := Glex_Scan.Λ) (fun A w0 => cuts_cons (Glex_Scan.c62 A w0) (cuts_cons (Glex_Scan.c3983 A w0) (cuts_cons (Glex_Scan.c7967 A w0) (cuts_nil)))) (fun x => by kernel_rfl)

/-! ### 24 bluebell/bluebelllaw02.awake -/
def Gw02_awake.f : Option Bool :=
  (Glex_Scan.f str783a3d236666).bind fun r1 => gd ((!((r1.2.1 == 0) && ((r1.1.length : Int) == 4))) || (inB 0 r1.1.length)) (gd ((!((r1.2.1 == 0) && ((r1.1.length : Int) == 4))) || (Nat.blt 0 r1.1.length)) (gd ((!(((r1.2.1 == 0) && ((r1.1.length : Int) == 4)) && (((((rd r1.1 0).cell 0).int) == 1) && (((((rd r1.1 0).cell 1).str).toList == str78.toList) && (((((rd r1.1 0).cell 2).int) == 0) && (((((rd r1.1 0).cell 3).int) == 0) && true)))))) || (inB 1 r1.1.length)) (gd ((!(((r1.2.1 == 0) && ((r1.1.length : Int) == 4)) && (((((rd r1.1 0).cell 0).int) == 1) && (((((rd r1.1 0).cell 1).str).toList == str78.toList) && (((((rd r1.1 0).cell 2).int) == 0) && (((((rd r1.1 0).cell 3).int) == 0) && true)))))) || (Nat.blt 1 r1.1.length)) (gd ((!((((r1.2.1 == 0) && ((r1.1.length : Int) == 4)) && (((((rd r1.1 0).cell 0).int) == 1) && (((((rd r1.1 0).cell 1).str).toList == str78.toList) && (((((rd r1.1 0).cell 2).int) == 0) && (((((rd r1.1 0).cell 3).int) == 0) && true))))) && (((((rd r1.1 1).cell 0).int) == 5) && (((((rd r1.1 1).cell 1).str).toList == str3a3d.toList) && (((((rd r1.1 1).cell 2).int) == 0) && (((((rd r1.1 1).cell 3).int) == 1) && true)))))) || (inB 2 r1.1.length)) (gd ((!((((r1.2.1 == 0) && ((r1.1.length : Int) == 4)) && (((((rd r1.1 0).cell 0).int) == 1) && (((((rd r1.1 0).cell 1).str).toList == str78.toList) && (((((rd r1.1 0).cell 2).int) == 0) && (((((rd r1.1 0).cell 3).int) == 0) && true))))) && (((((rd r1.1 1).cell 0).int) == 5) && (((((rd r1.1 1).cell 1).str).toList == str3a3d.toList) && (((((rd r1.1 1).cell 2).int) == 0) && (((((rd r1.1 1).cell 3).int) == 1) && true)))))) || (Nat.blt 2 r1.1.length)) (some (((((r1.2.1 == 0) && ((r1.1.length : Int) == 4)) && (((((rd r1.1 0).cell 0).int) == 1) && (((((rd r1.1 0).cell 1).str).toList == str78.toList) && (((((rd r1.1 0).cell 2).int) == 0) && (((((rd r1.1 0).cell 3).int) == 0) && true))))) && (((((rd r1.1 1).cell 0).int) == 5) && (((((rd r1.1 1).cell 1).str).toList == str3a3d.toList) && (((((rd r1.1 1).cell 2).int) == 0) && (((((rd r1.1 1).cell 3).int) == 1) && true))))) && (((((rd r1.1 2).cell 0).int) == 2) && (((((rd r1.1 2).cell 1).str).toList == ByteArray.empty.toList) && (((((rd r1.1 2).cell 2).int) == 255) && (((((rd r1.1 2).cell 3).int) == 3) && true)))))))))))
def Gw02_awake.pk : List FK := []
def Gw02_awake.rk : List FK := [.bool]
def Gw02_awake.g : Tp Gw02_awake.pk → Option (Tp Gw02_awake.rk) := fun _ => Gw02_awake.f
def Gw02_awake.ρ : List (Entry (Tp Gw02_awake.rk)) := [entry _ Tryd.prog 21 Glex_Scan.pk Glex_Scan.rk Glex_Scan.g]
theorem Gw02_awake.hρ : ∀ e ∈ Gw02_awake.ρ, EntryOk Tryd.prog e :=
  ents_cons (ent (fn := Tryd.f21) Glex_Scan.spec (by kernel_rfl) (by kernel_rfl) (by kernel_rfl) (by kernel_rfl)) (ents_nil)
def Gw02_awake.Λ : Cuts (Tp Gw02_awake.rk) := cutsOf []
theorem Gw02_awake.spec : Spec Tryd.prog 24 Gw02_awake.pk Gw02_awake.rk Gw02_awake.g :=
  spec_of_body (fn := Tryd.f24) (c := bodyOf Tryd.f24) (by kernel_rfl) (by kernel_rfl) (by kernel_rfl) (by kernel_rfl) (ρ := Gw02_awake.ρ) Gw02_awake.hρ (Λ := Gw02_awake.Λ) (fun A w0 => cuts_nil) (fun x => by kernel_rfl)

/-! ### 23 bluebell/bluebelllaw02.eqTokens -/
def Gw02_eqTokens.l58 : Nat → (List D) → (List D) → Int → (Unit → Option Bool) → Option Bool
  | 0, _, _, _, _ => none
  | k + 1, v0, v1, v5, κ1 =>
    bif decide (v5 < (v0.length : Int)) then gd (inB v5 v0.length) (gd (inB v5 v1.length) (bif (!(((((rd v0 v5.toNat).cell 0).int) == (((rd v1 v5.toNat).cell 0).int)) && (((((rd v0 v5.toNat).cell 1).str).toList == (((rd v1 v5.toNat).cell 1).str).toList) && (((((rd v0 v5.toNat).cell 2).int) == (((rd v1 v5.toNat).cell 2).int)) && (((((rd v0 v5.toNat).cell 3).int) == (((rd v1 v5.toNat).cell 3).int)) && true))))) then some false else Gw02_eqTokens.l58 k v0 v1 (IntKind.i64.wrap (v5 + 1)) κ1)) else κ1 ()
def Gw02_eqTokens.f (a0 : List D) (a1 : List D) : Option Bool :=
  bif ((a0.length : Int) != (a1.length : Int)) then some false else Gw02_eqTokens.l58 NN a0 a1 0 (fun y1 => some true)
def Gw02_eqTokens.pk : List FK := [.sl 33, .sl 33]
def Gw02_eqTokens.rk : List FK := [.bool]
def Gw02_eqTokens.g : Tp Gw02_eqTokens.pk → Option (Tp Gw02_eqTokens.rk) := fun x => Gw02_eqTokens.f x.1 x.2
def Gw02_eqTokens.ρ : List (Entry (Tp Gw02_eqTokens.rk)) := []
theorem Gw02_eqTokens.hρ : ∀ e ∈ Gw02_eqTokens.ρ, EntryOk Tryd.prog e :=
  ents_nil
def Gw02_eqTokens.fr58 : Fr := [(0, .sl 33), (1, .sl 33), (5, .int .i64)]
def Gw02_eqTokens.ou58 : Outs := [(1, [])]
def Gw02_eqTokens.T58 (k : Nat) (x : Gw02_eqTokens.fr58.T) (κ : Kp (Tp Gw02_eqTokens.rk) Gw02_eqTokens.ou58) : Option (Tp Gw02_eqTokens.rk) := Gw02_eqTokens.l58 k x.1 x.2.1 x.2.2 κ.1
def Gw02_eqTokens.Λ0 : Cuts (Tp Gw02_eqTokens.rk) := cutsOf []
def Gw02_eqTokens.Λ : Cuts (Tp Gw02_eqTokens.rk) := cutsOf [(58, cut Tryd.prog Gw02_eqTokens.fr58 Gw02_eqTokens.ou58 (Gw02_eqTokens.T58 NN))]
theorem Gw02_eqTokens.c58 (A : Ks) (w0 : World) : CutOk Tryd.prog ⟨Tryd.f23.ntmps, 0, A⟩ w0 (kRet Tryd.prog Tryd.f23.results.toList Gw02_eqTokens.rk) (bodyOf Tryd.f23) 58 (cut Tryd.prog Gw02_eqTokens.fr58 Gw02_eqTokens.ou58 (Gw02_eqTokens.T58 NN)) :=
  loop_ok Gw02_eqTokens.hρ (Λ := Gw02_eqTokens.Λ0) (cuts_nil) (by kernel_rfl) (D := 64) (b := loopOf Tryd.f23 58) (by kernel_rfl) (by kernel_rfl) NN (fun x κ => by kernel_rfl) (fun k x κ => by kernel_rfl)
theorem Gw02_eqTokens.spec : Spec Tryd.prog 23 Gw02_eqTokens.pk Gw02_eqTokens.rk Gw02_eqTokens.g :=
  spec_of_body (fn := Tryd.f23) (c := bodyOf Tryd.f23) (by kernel_rfl) (by kernel_rfl) (by kernel_rfl) (by kernel_rfl) (ρ := Gw02_eqTokens.ρ) Gw02_eqTokens.hρ (Λ := Gw02_eqTokens.Λ) (fun A w0 => cuts_cons (Gw02_eqTokens.c58 A w0) (cuts_nil)) (fun x => by kernel_rfl)

/-! ### 5 bluebell/bluebelllaw02.LexTwo -/
def Gw02_LexTwo.l8186 : Nat → ByteArray → (List D) → (List D) → Int → (List D) → Int → ((List D × Int × List D) → Option Bool) → Option Bool
  | 0, _, _, _, _, _, _, _ => none
  | k + 1, v0, v8, v11, v12, v14, v15, κ1 =>
    bif decide (v15 < (v8.length : Int)) then gd (inB v15 v8.length) (gd (Nat.blt v15.toNat v8.length) (gd (Nat.ble (v14.length + ([.r [.i (((rd v8 v15.toNat).cell 0).int), .s (((rd v8 v15.toNat).cell 1).str), .i (((rd v8 v15.toNat).cell 2).int), .i (IntKind.i64.wrap ((((rd v8 v15.toNat).cell 3).int) + (IntKind.i64.wrap ((v0.size : Int) + 1))))]] : List D).length) lim) (Gw02_LexTwo.l8186 k v0 v8 v11 v12 (v14 ++ ([.r [.i (((rd v8 v15.toNat).cell 0).int), .s (((rd v8 v15.toNat).cell 1).str), .i (((rd v8 v15.toNat).cell 2).int), .i (IntKind.i64.wrap ((((rd v8 v15.toNat).cell 3).int) + (IntKind.i64.wrap ((v0.size : Int) + 1))))]] : List D)) (IntKind.i64.wrap (v15 + 1)) κ1))) else κ1 (v11, v12, v14)
def Gw02_LexTwo.f (a0 : ByteArray) (a1 : ByteArray) : Option Bool :=
  bif decide ((IntKind.i64.wrap ((a0.size : Int) + (a1.size : Int))) ≥ 40000) then (Gw02_awake.f).bind fun r1 => some r1 else (Glex_Scan.f a0).bind fun r2 => (Glex_Scan.f a1).bind fun r3 => gd (decide (a0.size + str0a.size ≤ maxS)) (gd (decide ((a0 ++ str0a).size + a1.size ≤ maxS)) ((Glex_Scan.f ((a0 ++ str0a) ++ a1)).bind fun r4 => bif ((r2.2.1 != 0) || (decide ((IntKind.i64.wrap ((IntKind.i64.wrap ((r2.1.length : Int) + (a1.size : Int))) + 1)) > 20000))) then (bif ((r4.2.1 != 0) || (r2.2.1 == 0)) then Gw02_awake.f else some false).bind fun r5 => some (((r4.2.1 != 0) || (r2.2.1 == 0)) && r5) else bif (r3.2.1 != 0) then (bif ((r4.2.1 == r3.2.1) && (r4.2.2 == (IntKind.i64.wrap ((IntKind.i64.wrap (r3.2.2 + (a0.size : Int))) + 1)))) then Gw02_awake.f else some false).bind fun r6 => some (((r4.2.1 == r3.2.1) && (r4.2.2 == (IntKind.i64.wrap ((IntKind.i64.wrap (r3.2.2 + (a0.size : Int))) + 1)))) && r6) else bif ((r2.1.length : Int) == 0) then some false else gd (decide (0 ≤ (IntKind.i64.wrap ((r2.1.length : Int) - 1))) && decide ((IntKind.i64.wrap ((r2.1.length : Int) - 1)) ≤ (r2.1.length : Int))) (gd (Nat.ble ((r2.1.take (IntKind.i64.wrap ((r2.1.length : Int) - 1)).toNat).drop 0).length lim) (Gw02_LexTwo.l8186 NN a0 r3.1 r4.1 r4.2.1 ((r2.1.take (IntKind.i64.wrap ((r2.1.length : Int) - 1)).toNat).drop 0) 0 (fun y7 => (bif (y7.2.1 == 0) then Gw02_eqTokens.f y7.1 y7.2.2 else some false).bind fun r8 => (bif ((y7.2.1 == 0) && r8) then Gw02_awake.f else some false).bind fun r9 => some (((y7.2.1 == 0) && r8) && r9))))))
def Gw02_LexTwo.pk : List FK := [.str, .str]
def Gw02_LexTwo.rk : List FK := [.bool]
def Gw02_LexTwo.g : Tp Gw02_LexTwo.pk → Option (Tp Gw02_LexTwo.rk) := fun x => Gw02_LexTwo.f x.1 x.2
def Gw02_LexTwo.ρ : List (Entry (Tp Gw02_LexTwo.rk)) := [entry _ Tryd.prog 24 Gw02_awake.pk Gw02_awake.rk Gw02_awake.g, entry _ Tryd.prog 21 Glex_Scan.pk Glex_Scan.rk Glex_Scan.g, entry _ Tryd.prog 23 Gw02_eqTokens.pk Gw02_eqTokens.rk Gw02_eqTokens.g]
theorem Gw02_LexTwo.hρ : ∀ e ∈ Gw02_LexTwo.ρ, EntryOk Tryd.prog e :=
  ents_cons (ent (fn := Tryd.f24) Gw02_awake.spec (by kernel_rfl) (by kernel_rfl) (by kernel_rfl) (by kernel_rfl)) (ents_cons (ent (fn := Tryd.f21) Glex_Scan.spec (by kernel_rfl) (by kernel_rfl) (by kernel_rfl) (by kernel_rfl)) (ents_cons (ent (fn := Tryd.f23) Gw02_eqTokens.spec (by kernel_rfl) (by kernel_rfl) (by kernel_rfl) (by kernel_rfl)) (ents_nil)))
def Gw02_LexTwo.fr8186 : Fr := [(0, .str), (8, .own 33), (11, .own 33), (12, .int .i64), (14, .own 33), (15, .int .i64)]
def Gw02_LexTwo.ou8186 : Outs := [(1, [(11, .own 33), (12, .int .i64), (14, .own 33)])]
def Gw02_LexTwo.T8186 (k : Nat) (x : Gw02_LexTwo.fr8186.T) (κ : Kp (Tp Gw02_LexTwo.rk) Gw02_LexTwo.ou8186) : Option (Tp Gw02_LexTwo.rk) := Gw02_LexTwo.l8186 k x.1 x.2.1 x.2.2.1 x.2.2.2.1 x.2.2.2.2.1 x.2.2.2.2.2 κ.1
def Gw02_LexTwo.Λ0 : Cuts (Tp Gw02_LexTwo.rk) := cutsOf []
def Gw02_LexTwo.Λ : Cuts (Tp Gw02_LexTwo.rk) := cutsOf [(8186, cut Tryd.prog Gw02_LexTwo.fr8186 Gw02_LexTwo.ou8186 (Gw02_LexTwo.T8186 NN))]
theorem Gw02_LexTwo.c8186 (A : Ks) (w0 : World) : CutOk Tryd.prog ⟨Tryd.f5.ntmps, 0, A⟩ w0 (kRet Tryd.prog Tryd.f5.results.toList Gw02_LexTwo.rk) (bodyOf Tryd.f5) 8186 (cut Tryd.prog Gw02_LexTwo.fr8186 Gw02_LexTwo.ou8186 (Gw02_LexTwo.T8186 NN)) :=
  loop_ok Gw02_LexTwo.hρ (Λ := Gw02_LexTwo.Λ0) (cuts_nil) (by kernel_rfl) (D := 64) (b := loopOf Tryd.f5 8186) (by kernel_rfl) (by kernel_rfl) NN (fun x κ => by kernel_rfl) (fun k x κ => by kernel_rfl)
theorem Gw02_LexTwo.spec : Spec Tryd.prog 5 Gw02_LexTwo.pk Gw02_LexTwo.rk Gw02_LexTwo.g :=
  spec_of_body (fn := Tryd.f5) (c := bodyOf Tryd.f5) (by kernel_rfl) (by kernel_rfl) (by kernel_rfl) (by kernel_rfl) (ρ := Gw02_LexTwo.ρ) Gw02_LexTwo.hρ (Λ := Gw02_LexTwo.Λ) (fun A w0 => cuts_cons (Gw02_LexTwo.c8186 A w0) (cuts_nil)) (fun x => by kernel_rfl)

/-! ### 6 bluebell/bluebelllaw02.LexRises -/
def Gw02_LexRises.l250 : Nat → ByteArray → Int → (List D) → Int → ((ByteArray × Int × List D) → Option Bool) → Option Bool
  | 0, _, _, _, _, _ => none
  | k + 1, v0, v1, v5, v8, κ1 =>
    bif decide (v8 < (v5.length : Int)) then gd (inB v8 v5.length) (gd (Nat.blt v8.toNat v5.length) (gd (inB (IntKind.i64.wrap (v8 - 1)) v5.length) (gd (Nat.blt (IntKind.i64.wrap (v8 - 1)).toNat v5.length) (gd ((!(!(decide ((((rd v5 v8.toNat).cell 3).int) < (((rd v5 (IntKind.i64.wrap (v8 - 1)).toNat).cell 3).int))))) || (inB v8 v5.length)) (gd ((!(!(decide ((((rd v5 v8.toNat).cell 3).int) < (((rd v5 (IntKind.i64.wrap (v8 - 1)).toNat).cell 3).int))))) || (Nat.blt v8.toNat v5.length)) (gd ((!(!(decide ((((rd v5 v8.toNat).cell 3).int) < (((rd v5 (IntKind.i64.wrap (v8 - 1)).toNat).cell 3).int))))) || (inB (IntKind.i64.wrap (v8 - 1)) v5.length)) (gd ((!(!(decide ((((rd v5 v8.toNat).cell 3).int) < (((rd v5 (IntKind.i64.wrap (v8 - 1)).toNat).cell 3).int))))) || (Nat.blt (IntKind.i64.wrap (v8 - 1)).toNat v5.length)) (bif ((decide ((((rd v5 v8.toNat).cell 3).int) < (((rd v5 (IntKind.i64.wrap (v8 - 1)).toNat).cell 3).int))) || (((((rd v5 v8.toNat).cell 3).int) == (((rd v5 (IntKind.i64.wrap (v8 - 1)).toNat).cell 3).int)) && (decide (v8 < (IntKind.i64.wrap ((v5.length : Int) - 1)))))) then some false else Gw02_LexRises.l250 k v0 v1 v5 (IntKind.i64.wrap (v8 + 1)) κ1)))))))) else κ1 (v0, v1, v5)
def Gw02_LexRises.f (a0 : ByteArray) (a1 : Int) : Option Bool :=
  (Glex_Scan.f a0).bind fun r1 => bif (r1.2.1 != 0) then (bif ((((r1.1.length : Int) == 0) && (decide (r1.2.2 ≥ 0))) && (decide (r1.2.2 ≤ (a0.size : Int)))) then Gw02_awake.f else some false).bind fun r2 => some (((((r1.1.length : Int) == 0) && (decide (r1.2.2 ≥ 0))) && (decide (r1.2.2 ≤ (a0.size : Int)))) && r2) else gd ((!(!(((r1.1.length : Int) == 0) || (r1.2.2 != 0)))) || (inB (IntKind.i64.wrap ((r1.1.length : Int) - 1)) r1.1.length)) (gd ((!(!(((r1.1.length : Int) == 0) || (r1.2.2 != 0)))) || (Nat.blt (IntKind.i64.wrap ((r1.1.length : Int) - 1)).toNat r1.1.length)) (bif ((((r1.1.length : Int) == 0) || (r1.2.2 != 0)) || (!(((((rd r1.1 (IntKind.i64.wrap ((r1.1.length : Int) - 1)).toNat).cell 0).int) == 0) && (((((rd r1.1 (IntKind.i64.wrap ((r1.1.length : Int) - 1)).toNat).cell 1).str).toList == ByteArray.empty.toList) && (((((rd r1.1 (IntKind.i64.wrap ((r1.1.length : Int) - 1)).toNat).cell 2).int) == 0) && (((((rd r1.1 (IntKind.i64.wrap ((r1.1.length : Int) - 1)).toNat).cell 3).int) == (a0.size : Int)) && true)))))) then some false else Gw02_LexRises.l250 NN a0 a1 r1.1 1 (fun y3 => bif ((decide (y3.2.1 < 0)) || (decide (y3.2.1 ≥ (y3.2.2.length : Int)))) then (Gw02_awake.f).bind fun r4 => some r4 else gd (inB y3.2.1 y3.2.2.length) (gd (Nat.blt y3.2.1.toNat y3.2.2.length) (gd (decide (0 ≤ (((rd y3.2.2 y3.2.1.toNat).cell 3).int)) && decide ((((rd y3.2.2 y3.2.1.toNat).cell 3).int) ≤ (y3.1.size : Int))) ((Glex_Scan.f (y3.1.extract 0 (((rd y3.2.2 y3.2.1.toNat).cell 3).int).toNat)).bind fun r5 => gd (decide (0 ≤ y3.2.1) && decide (y3.2.1 ≤ (y3.2.2.length : Int))) (gd (Nat.ble ((y3.2.2.take y3.2.1.toNat).drop 0).length lim) (gd (inB y3.2.1 y3.2.2.length) (gd (Nat.blt y3.2.1.toNat y3.2.2.length) (gd (Nat.ble (((y3.2.2.take y3.2.1.toNat).drop 0).length + ([.r [.i 0, .s ByteArray.empty, .i 0, .i (((rd y3.2.2 y3.2.1.toNat).cell 3).int)]] : List D).length) lim) ((bif (r5.2.1 == 0) then Gw02_eqTokens.f r5.1 (((y3.2.2.take y3.2.1.toNat).drop 0) ++ ([.r [.i 0, .s ByteArray.empty, .i 0, .i (((rd y3.2.2 y3.2.1.toNat).cell 3).int)]] : List D)) else some false).bind fun r6 => (bif ((r5.2.1 == 0) && r6) then Gw02_awake.f else some false).bind fun r7 => some (((r5.2.1 == 0) && r6) && r7))))))))))))
def Gw02_LexRises.pk : List FK := [.str, .int .i64]
def Gw02_LexRises.rk : List FK := [.bool]
def Gw02_LexRises.g : Tp Gw02_LexRises.pk → Option (Tp Gw02_LexRises.rk) := fun x => Gw02_LexRises.f x.1 x.2
def Gw02_LexRises.ρ : List (Entry (Tp Gw02_LexRises.rk)) := [entry _ Tryd.prog 21 Glex_Scan.pk Glex_Scan.rk Glex_Scan.g, entry _ Tryd.prog 24 Gw02_awake.pk Gw02_awake.rk Gw02_awake.g, entry _ Tryd.prog 23 Gw02_eqTokens.pk Gw02_eqTokens.rk Gw02_eqTokens.g]
theorem Gw02_LexRises.hρ : ∀ e ∈ Gw02_LexRises.ρ, EntryOk Tryd.prog e :=
  ents_cons (ent (fn := Tryd.f21) Glex_Scan.spec (by kernel_rfl) (by kernel_rfl) (by kernel_rfl) (by kernel_rfl)) (ents_cons (ent (fn := Tryd.f24) Gw02_awake.spec (by kernel_rfl) (by kernel_rfl) (by kernel_rfl) (by kernel_rfl)) (ents_cons (ent (fn := Tryd.f23) Gw02_eqTokens.spec (by kernel_rfl) (by kernel_rfl) (by kernel_rfl) (by kernel_rfl)) (ents_nil)))
def Gw02_LexRises.fr250 : Fr := [(0, .str), (1, .int .i64), (5, .own 33), (8, .int .i64)]
def Gw02_LexRises.ou250 : Outs := [(1, [(0, .str), (1, .int .i64), (5, .own 33)])]
def Gw02_LexRises.T250 (k : Nat) (x : Gw02_LexRises.fr250.T) (κ : Kp (Tp Gw02_LexRises.rk) Gw02_LexRises.ou250) : Option (Tp Gw02_LexRises.rk) := Gw02_LexRises.l250 k x.1 x.2.1 x.2.2.1 x.2.2.2 κ.1
def Gw02_LexRises.Λ0 : Cuts (Tp Gw02_LexRises.rk) := cutsOf []
def Gw02_LexRises.Λ : Cuts (Tp Gw02_LexRises.rk) := cutsOf [(250, cut Tryd.prog Gw02_LexRises.fr250 Gw02_LexRises.ou250 (Gw02_LexRises.T250 NN))]
theorem Gw02_LexRises.c250 (A : Ks) (w0 : World) : CutOk Tryd.prog ⟨Tryd.f6.ntmps, 0, A⟩ w0 (kRet Tryd.prog Tryd.f6.results.toList Gw02_LexRises.rk) (bodyOf Tryd.f6) 250 (cut Tryd.prog Gw02_LexRises.fr250 Gw02_LexRises.ou250 (Gw02_LexRises.T250 NN)) :=
  loop_ok Gw02_LexRises.hρ (Λ := Gw02_LexRises.Λ0) (cuts_nil) (by kernel_rfl) (D := 64) (b := loopOf Tryd.f6 250) (by kernel_rfl) (by kernel_rfl) NN (fun x κ => by kernel_rfl) (fun k x κ => by kernel_rfl)
theorem Gw02_LexRises.spec : Spec Tryd.prog 6 Gw02_LexRises.pk Gw02_LexRises.rk Gw02_LexRises.g :=
  spec_of_body (fn := Tryd.f6) (c := bodyOf Tryd.f6) (by kernel_rfl) (by kernel_rfl) (by kernel_rfl) (by kernel_rfl) (ρ := Gw02_LexRises.ρ) Gw02_LexRises.hρ (Λ := Gw02_LexRises.Λ) (fun A w0 => cuts_cons (Gw02_LexRises.c250 A w0) (cuts_nil)) (fun x => by kernel_rfl)

/-! ### 25 bluebell/bluebelllaw02.alike -/
def Gw02_alike.l58 : Nat → (List D) → (List D) → Int → (Unit → Option Bool) → Option Bool
  | 0, _, _, _, _ => none
  | k + 1, v0, v1, v5, κ1 =>
    bif decide (v5 < (v0.length : Int)) then gd (inB v5 v0.length) (gd (inB v5 v1.length) (gd ((!(!((((rd v0 v5.toNat).cell 0).int) != (((rd v1 v5.toNat).cell 0).int)))) || (inB v5 v0.length)) (gd ((!(!((((rd v0 v5.toNat).cell 0).int) != (((rd v1 v5.toNat).cell 0).int)))) || (inB v5 v1.length)) (gd ((!(!(((((rd v0 v5.toNat).cell 0).int) != (((rd v1 v5.toNat).cell 0).int)) || (!((((rd v0 v5.toNat).cell 1).str).toList == (((rd v1 v5.toNat).cell 1).str).toList))))) || (inB v5 v0.length)) (gd ((!(!(((((rd v0 v5.toNat).cell 0).int) != (((rd v1 v5.toNat).cell 0).int)) || (!((((rd v0 v5.toNat).cell 1).str).toList == (((rd v1 v5.toNat).cell 1).str).toList))))) || (inB v5 v1.length)) (bif ((((((rd v0 v5.toNat).cell 0).int) != (((rd v1 v5.toNat).cell 0).int)) || (!((((rd v0 v5.toNat).cell 1).str).toList == (((rd v1 v5.toNat).cell 1).str).toList))) || ((((rd v0 v5.toNat).cell 2).int) != (((rd v1 v5.toNat).cell 2).int))) then some false else Gw02_alike.l58 k v0 v1 (IntKind.i64.wrap (v5 + 1)) κ1)))))) else κ1 ()
def Gw02_alike.f (a0 : List D) (a1 : List D) : Option Bool :=
  bif ((a0.length : Int) != (a1.length : Int)) then some false else Gw02_alike.l58 NN a0 a1 0 (fun y1 => some true)
def Gw02_alike.pk : List FK := [.sl 33, .sl 33]
def Gw02_alike.rk : List FK := [.bool]
def Gw02_alike.g : Tp Gw02_alike.pk → Option (Tp Gw02_alike.rk) := fun x => Gw02_alike.f x.1 x.2
def Gw02_alike.ρ : List (Entry (Tp Gw02_alike.rk)) := []
theorem Gw02_alike.hρ : ∀ e ∈ Gw02_alike.ρ, EntryOk Tryd.prog e :=
  ents_nil
def Gw02_alike.fr58 : Fr := [(0, .sl 33), (1, .sl 33), (5, .int .i64)]
def Gw02_alike.ou58 : Outs := [(1, [])]
def Gw02_alike.T58 (k : Nat) (x : Gw02_alike.fr58.T) (κ : Kp (Tp Gw02_alike.rk) Gw02_alike.ou58) : Option (Tp Gw02_alike.rk) := Gw02_alike.l58 k x.1 x.2.1 x.2.2 κ.1
def Gw02_alike.Λ0 : Cuts (Tp Gw02_alike.rk) := cutsOf []
def Gw02_alike.Λ : Cuts (Tp Gw02_alike.rk) := cutsOf [(58, cut Tryd.prog Gw02_alike.fr58 Gw02_alike.ou58 (Gw02_alike.T58 NN))]
theorem Gw02_alike.c58 (A : Ks) (w0 : World) : CutOk Tryd.prog ⟨Tryd.f25.ntmps, 0, A⟩ w0 (kRet Tryd.prog Tryd.f25.results.toList Gw02_alike.rk) (bodyOf Tryd.f25) 58 (cut Tryd.prog Gw02_alike.fr58 Gw02_alike.ou58 (Gw02_alike.T58 NN)) :=
  loop_ok Gw02_alike.hρ (Λ := Gw02_alike.Λ0) (cuts_nil) (by kernel_rfl) (D := 64) (b := loopOf Tryd.f25 58) (by kernel_rfl) (by kernel_rfl) NN (fun x κ => by kernel_rfl) (fun k x κ => by kernel_rfl)
theorem Gw02_alike.spec : Spec Tryd.prog 25 Gw02_alike.pk Gw02_alike.rk Gw02_alike.g :=
  spec_of_body (fn := Tryd.f25) (c := bodyOf Tryd.f25) (by kernel_rfl) (by kernel_rfl) (by kernel_rfl) (by kernel_rfl) (ρ := Gw02_alike.ρ) Gw02_alike.hρ (Λ := Gw02_alike.Λ) (fun A w0 => cuts_cons (Gw02_alike.c58 A w0) (cuts_nil)) (fun x => by kernel_rfl)

/-! ### 7 bluebell/bluebelllaw02.LexBlanks -/
def Gw02_LexBlanks.f (a0 : ByteArray) (a1 : Int) : Option Bool :=
  (Glex_Scan.f a0).bind fun r1 => bif ((((r1.2.1 != 0) || (decide (a1 < 0))) || (decide (a1 ≥ (r1.1.length : Int)))) || (decide ((IntKind.i64.wrap ((a0.size : Int) + 8)) > 40000))) then (Gw02_awake.f).bind fun r2 => some r2 else gd (inB a1 r1.1.length) (gd (Nat.blt a1.toNat r1.1.length) (gd (decide (0 ≤ (((rd r1.1 a1.toNat).cell 3).int)) && decide ((((rd r1.1 a1.toNat).cell 3).int) ≤ (a0.size : Int))) (gd (decide ((a0.extract 0 (((rd r1.1 a1.toNat).cell 3).int).toNat).size + str09202f2f2a200a.size ≤ maxS)) (gd (inB a1 r1.1.length) (gd (Nat.blt a1.toNat r1.1.length) (gd (decide (0 ≤ (((rd r1.1 a1.toNat).cell 3).int)) && decide ((((rd r1.1 a1.toNat).cell 3).int) ≤ (a0.size : Int))) (gd (decide (((a0.extract 0 (((rd r1.1 a1.toNat).cell 3).int).toNat) ++ str09202f2f2a200a).size + (a0.extract (((rd r1.1 a1.toNat).cell 3).int).toNat a0.size).size ≤ maxS)) ((Glex_Scan.f (((a0.extract 0 (((rd r1.1 a1.toNat).cell 3).int).toNat) ++ str09202f2f2a200a) ++ (a0.extract (((rd r1.1 a1.toNat).cell 3).int).toNat a0.size))).bind fun r3 => (bif (r3.2.1 == 0) then Gw02_alike.f r1.1 r3.1 else some false).bind fun r4 => (bif ((r3.2.1 == 0) && r4) then Gw02_awake.f else some false).bind fun r5 => some (((r3.2.1 == 0) && r4) && r5)))))))))
def Gw02_LexBlanks.pk : List FK := [.str, .int .i64]
def Gw02_LexBlanks.rk : List FK := [.bool]
def Gw02_LexBlanks.g : Tp Gw02_LexBlanks.pk → Option (Tp Gw02_LexBlanks.rk) := fun x => Gw02_LexBlanks.f x.1 x.2
def Gw02_LexBlanks.ρ : List (Entry (Tp Gw02_LexBlanks.rk)) := [entry _ Tryd.prog 21 Glex_Scan.pk Glex_Scan.rk Glex_Scan.g, entry _ Tryd.prog 24 Gw02_awake.pk Gw02_awake.rk Gw02_awake.g, entry _ Tryd.prog 25 Gw02_alike.pk Gw02_alike.rk Gw02_alike.g]
theorem Gw02_LexBlanks.hρ : ∀ e ∈ Gw02_LexBlanks.ρ, EntryOk Tryd.prog e :=
  ents_cons (ent (fn := Tryd.f21) Glex_Scan.spec (by kernel_rfl) (by kernel_rfl) (by kernel_rfl) (by kernel_rfl)) (ents_cons (ent (fn := Tryd.f24) Gw02_awake.spec (by kernel_rfl) (by kernel_rfl) (by kernel_rfl) (by kernel_rfl)) (ents_cons (ent (fn := Tryd.f25) Gw02_alike.spec (by kernel_rfl) (by kernel_rfl) (by kernel_rfl) (by kernel_rfl)) (ents_nil)))
def Gw02_LexBlanks.Λ : Cuts (Tp Gw02_LexBlanks.rk) := cutsOf []
theorem Gw02_LexBlanks.spec : Spec Tryd.prog 7 Gw02_LexBlanks.pk Gw02_LexBlanks.rk Gw02_LexBlanks.g :=
  spec_of_body (fn := Tryd.f7) (c := bodyOf Tryd.f7) (by kernel_rfl) (by kernel_rfl) (by kernel_rfl) (by kernel_rfl) (ρ := Gw02_LexBlanks.ρ) Gw02_LexBlanks.hρ (Λ := Gw02_LexBlanks.Λ) (fun A w0 => cuts_nil) (fun x => by kernel_rfl)

/-! ### 8 bluebell/bluebelllaw02.LexFirst -/
def Gw02_LexFirst.f (a0 : ByteArray) (a1 : ByteArray) : Option Bool :=
  bif decide ((IntKind.i64.wrap ((a0.size : Int) + (a1.size : Int))) ≥ 40000) then (Gw02_awake.f).bind fun r1 => some r1 else (Glex_Scan.f a0).bind fun r2 => gd (decide (a0.size + str0a.size ≤ maxS)) (gd (decide ((a0 ++ str0a).size + a1.size ≤ maxS)) ((Glex_Scan.f ((a0 ++ str0a) ++ a1)).bind fun r3 => bif ((r2.2.1 == 0) || ((r2.2.1 == 2) && (r2.2.2 == (a0.size : Int)))) then (Gw02_awake.f).bind fun r4 => some r4 else (bif ((r2.2.1 == r3.2.1) && (r2.2.2 == r3.2.2)) then Gw02_awake.f else some false).bind fun r5 => some (((r2.2.1 == r3.2.1) && (r2.2.2 == r3.2.2)) && r5)))
def Gw02_LexFirst.pk : List FK := [.str, .str]
def Gw02_LexFirst.rk : List FK := [.bool]
def Gw02_LexFirst.g : Tp Gw02_LexFirst.pk → Option (Tp Gw02_LexFirst.rk) := fun x => Gw02_LexFirst.f x.1 x.2
def Gw02_LexFirst.ρ : List (Entry (Tp Gw02_LexFirst.rk)) := [entry _ Tryd.prog 24 Gw02_awake.pk Gw02_awake.rk Gw02_awake.g, entry _ Tryd.prog 21 Glex_Scan.pk Glex_Scan.rk Glex_Scan.g]
theorem Gw02_LexFirst.hρ : ∀ e ∈ Gw02_LexFirst.ρ, EntryOk Tryd.prog e :=
  ents_cons (ent (fn := Tryd.f24) Gw02_awake.spec (by kernel_rfl) (by kernel_rfl) (by kernel_rfl) (by kernel_rfl)) (ents_cons (ent (fn := Tryd.f21) Glex_Scan.spec (by kernel_rfl) (by kernel_rfl) (by kernel_rfl) (by kernel_rfl)) (ents_nil))
def Gw02_LexFirst.Λ : Cuts (Tp Gw02_LexFirst.rk) := cutsOf []
theorem Gw02_LexFirst.spec : Spec Tryd.prog 8 Gw02_LexFirst.pk Gw02_LexFirst.rk Gw02_LexFirst.g :=
  spec_of_body (fn := Tryd.f8) (c := bodyOf Tryd.f8) (by kernel_rfl) (by kernel_rfl) (by kernel_rfl) (by kernel_rfl) (ρ := Gw02_LexFirst.ρ) Gw02_LexFirst.hρ (Λ := Gw02_LexFirst.Λ) (fun A w0 => cuts_nil) (fun x => by kernel_rfl)
end
end Go.Pv
