/- The program's functions as functions of data, and their contracts. -/
import Derived.Test.YtkmcanknbdaliaaPLaysB
import Derived.Test.YtkmcanknbdaliaaPLaysHPvH1
import Derived.Test.YtkmcanknbdaliaaProg
import Derived.Test.YtkmcanknbdaliaaPLaysF1
set_option linter.unusedVariables false
set_option linter.unusedSimpArgs false
set_option maxRecDepth 100000
namespace Go.Pv
noncomputable section
open Go.Proofs

/-! ### 82 bluebell/bluebellref01.join -/
def Gr01_join.p3731 (v0 : List D) (v3 : D) (v5 : Int) (v6 : Int) (v7 : Int) (κ0 : (List D × D × Int × Int) → Option Int) : Option Int :=
  gd (inB v7 v0.length) (κ0 (v0, v3, (IntKind.i64.wrap ((IntKind.i64.wrap (v5 * 256)) + ((rd v0 v7.toNat).int))), v6))
def Gr01_join.l58 : Nat → (List D) → D → Int → Int → ((D × Int) → Option Int) → Option Int
  | 0, _, _, _, _, _ => none
  | k + 1, v0, v3, v5, v6, κ1 =>
    bif decide (v6 < (v0.length : Int)) then bif (v3.cell 1).bool then Gr01_join.p3731 v0 v3 v5 v6 v6 (fun y1 => Gr01_join.l58 k y1.1 y1.2.1 y1.2.2.1 (IntKind.i64.wrap (y1.2.2.2 + 1)) κ1) else Gr01_join.p3731 v0 v3 v5 v6 (IntKind.i64.wrap ((IntKind.i64.wrap ((v0.length : Int) - 1)) - v6)) (fun y2 => Gr01_join.l58 k y2.1 y2.2.1 y2.2.2.1 (IntKind.i64.wrap (y2.2.2.2 + 1)) κ1) else κ1 (v3, v5)
def Gr01_join.f (a0 : List D) (a1 : D) : Option Int :=
  Gr01_join.l58 NN a0 a1 0 0 (fun y3 => (Gr01_norm.f y3.2 ((y3.1.cell 0).int)).bind fun r4 => some r4)
def Gr01_join.pk : List FK := [.sl 3, .st 45]
def Gr01_join.rk : List FK := [.int .i64]
def Gr01_join.g : Tp Gr01_join.pk → Option (Tp Gr01_join.rk) := fun x => Gr01_join.f x.1 x.2
def Gr01_join.ρ : List (Entry (Tp Gr01_join.rk)) := [entry _ Try.prog 83 Gr01_norm.pk Gr01_norm.rk Gr01_norm.g]
theorem Gr01_join.hρ : ∀ e ∈ Gr01_join.ρ, EntryOk Try.prog e :=
  ents_cons (ent (fn := Try.f83) Gr01_norm.spec (by kernel_rfl) (by kernel_rfl) (by kernel_rfl) (by kernel_rfl)) (ents_nil)
def Gr01_join.fr3731 : Fr := [(0, .sl 3), (3, .bx (.st 45)), (5, .int .i64), (6, .int .i64), (7, .int .i64)]
def Gr01_join.ou3731 : Outs := [(0, [(0, .sl 3), (3, .bx (.st 45)), (5, .int .i64), (6, .int .i64)])]
def Gr01_join.T3731 (x : Gr01_join.fr3731.T) (κ : Kp (Tp Gr01_join.rk) Gr01_join.ou3731) : Option (Tp Gr01_join.rk) := Gr01_join.p3731 x.1 x.2.1 x.2.2.1 x.2.2.2.1 x.2.2.2.2 κ.1
def Gr01_join.fr58 : Fr := [(0, .sl 3), (3, .bx (.st 45)), (5, .int .i64), (6, .int .i64)]
def Gr01_join.ou58 : Outs := [(1, [(3, .bx (.st 45)), (5, .int .i64)])]
def Gr01_join.T58 (k : Nat) (x : Gr01_join.fr58.T) (κ : Kp (Tp Gr01_join.rk) Gr01_join.ou58) : Option (Tp Gr01_join.rk) := Gr01_join.l58 k x.1 x.2.1 x.2.2.1 x.2.2.2 κ.1
def Gr01_join.Λ0 : Cuts (Tp Gr01_join.rk) := cutsOf []
def Gr01_join.Λ1 : Cuts (Tp Gr01_join.rk) := cutsOf [(3731, cut Try.prog Gr01_join.fr3731 Gr01_join.ou3731 (Gr01_join.T3731))]
def Gr01_join.Λ : Cuts (Tp Gr01_join.rk) := cutsOf [(58, cut Try.prog Gr01_join.fr58 Gr01_join.ou58 (Gr01_join.T58 NN)), (3731, cut Try.prog Gr01_join.fr3731 Gr01_join.ou3731 (Gr01_join.T3731))]
theorem Gr01_join.c3731 (A : Nat → Prop) (w0 : World) : CutOk Try.prog ⟨Try.f82.ntmps, A⟩ w0 (kRet Try.prog Try.f82.results.toList Gr01_join.rk) (bodyOf Try.f82) 3731 (cut Try.prog Gr01_join.fr3731 Gr01_join.ou3731 (Gr01_join.T3731)) :=
  cut_ok Gr01_join.hρ (Λ := Gr01_join.Λ0) (cuts_nil) (by kernel_rfl) (by kernel_rfl) (D := 64) (c := nodeOf Try.f82 3731) (by kernel_rfl) (by kernel_rfl) (fun x κ => by kernel_rfl)
theorem Gr01_join.c58 (A : Nat → Prop) (w0 : World) : CutOk Try.prog ⟨Try.f82.ntmps, A⟩ w0 (kRet Try.prog Try.f82.results.toList Gr01_join.rk) (bodyOf Try.f82) 58 (cut Try.prog Gr01_join.fr58 Gr01_join.ou58 (Gr01_join.T58 NN)) :=
  loop_ok Gr01_join.hρ (Λ := Gr01_join.Λ1) (cuts_cons (Gr01_join.c3731 A w0) (cuts_nil)) (by kernel_rfl) (D := 64) (b := loopOf Try.f82 58) (by kernel_rfl) (by kernel_rfl) NN (fun x κ => by kernel_rfl) (fun k x κ => by kernel_rfl)
theorem Gr01_join.spec : Spec Try.prog 82 Gr01_join.pk Gr01_join.rk Gr01_join.g :=
  spec_of_body (fn := Try.f82) (c := bodyOf Try.f82) (by kernel_rfl) (by kernel_rfl) (by kernel_rfl) (by kernel_rfl) (ρ := Gr01_join.ρ) Gr01_join.hρ (Λ := Gr01_join.Λ) (fun A w0 => cuts_cons (Gr01_join.c58 A w0) (cuts_cons (Gr01_join.c3731 A w0) (cuts_nil))) (fun x => by kernel_rfl)

/-! ### 59 bluebell/bluebellref01.Pack -/
def Gr01_Pack.l250 : Nat → ByteArray → D → (List D) → Int → ((D × List D) → Option (List D × Int)) → Option (List D × Int)
  | 0, _, _, _, _, _ => none
  | k + 1, v0, v3, v6, v7, κ1 =>
    bif decide (v7 < (v0.size : Int)) then gd (inB v7 v0.size) (gd (Nat.ble (v6.length + ([.i (IntKind.i64.wrap (bt v0 v7.toNat))] : List D).length) lim) (Gr01_Pack.l250 k v0 v3 (v6 ++ ([.i (IntKind.i64.wrap (bt v0 v7.toNat))] : List D)) (IntKind.i64.wrap (v7 + 1)) κ1)) else κ1 (v3, v6)
def Gr01_Pack.l252 : Nat → D → (List D) → ((D × List D) → Option (List D × Int)) → Option (List D × Int)
  | 0, _, _, _ => none
  | k + 1, v3, v6, κ3 =>
    (Gr01_size.f v3).bind fun r3 => gd (!(r3 == 0)) (bif decide (((v6.length : Int).tmod r3) > 0) then gd (Nat.ble (v6.length + ([.i 0] : List D).length) lim) (Gr01_Pack.l252 k v3 (v6 ++ ([.i 0] : List D)) κ3) else κ3 (v3, v6))
def Gr01_Pack.l2042 : Nat → D → (List D) → (List D) → Int → (List D → Option (List D × Int)) → Option (List D × Int)
  | 0, _, _, _, _, _ => none
  | k + 1, v3, v6, v8, v9, κ5 =>
    bif decide (v9 < (v6.length : Int)) then (Gr01_size.f v3).bind fun r5 => gd (decide (0 ≤ v9) && (decide (v9 ≤ (IntKind.i64.wrap (v9 + r5))) && decide ((IntKind.i64.wrap (v9 + r5)) ≤ (v6.length : Int)))) ((Gr01_join.f ((v6.take (IntKind.i64.wrap (v9 + r5)).toNat).drop v9.toNat) v3).bind fun r6 => gd (Nat.ble (v8.length + ([.i r6] : List D).length) lim) ((Gr01_size.f v3).bind fun r7 => Gr01_Pack.l2042 k v3 v6 (v8 ++ ([.i r6] : List D)) (IntKind.i64.wrap (v9 + r7)) κ5)) else κ5 v8
def Gr01_Pack.f (a0 : ByteArray) (a1 : D) : Option (List D × Int) :=
  (Gr01_Valid.f a1).bind fun r1 => bif (!r1) then some ([], 3) else bif decide ((a0.size : Int) > 255) then some ([], 2) else Gr01_Pack.l250 NN a0 a1 ([.i (a0.size : Int)] : List D) 0 (fun y2 => Gr01_Pack.l252 NN y2.1 y2.2 (fun y4 => Gr01_Pack.l2042 NN y4.1 y4.2 [] 0 (fun y8 => some (y8, 0))))
def Gr01_Pack.pk : List FK := [.str, .st 45]
def Gr01_Pack.rk : List FK := [.own 3, .int .i64]
def Gr01_Pack.g : Tp Gr01_Pack.pk → Option (Tp Gr01_Pack.rk) := fun x => Gr01_Pack.f x.1 x.2
def Gr01_Pack.ρ : List (Entry (Tp Gr01_Pack.rk)) := [entry _ Try.prog 56 Gr01_Valid.pk Gr01_Valid.rk Gr01_Valid.g, entry _ Try.prog 81 Gr01_size.pk Gr01_size.rk Gr01_size.g, entry _ Try.prog 82 Gr01_join.pk Gr01_join.rk Gr01_join.g]
theorem Gr01_Pack.hρ : ∀ e ∈ Gr01_Pack.ρ, EntryOk Try.prog e :=
  ents_cons (ent (fn := Try.f56) Gr01_Valid.spec (by kernel_rfl) (by kernel_rfl) (by kernel_rfl) (by kernel_rfl)) (ents_cons (ent (fn := Try.f81) Gr01_size.spec (by kernel_rfl) (by kernel_rfl) (by kernel_rfl) (by kernel_rfl)) (ents_cons (ent (fn := Try.f82) Gr01_join.spec (by kernel_rfl) (by kernel_rfl) (by kernel_rfl) (by kernel_rfl)) (ents_nil)))
def Gr01_Pack.fr250 : Fr := [(0, .str), (3, .bx (.st 45)), (6, .own 3), (7, .int .i64)]
def Gr01_Pack.ou250 : Outs := [(1, [(3, .bx (.st 45)), (6, .own 3)])]
def Gr01_Pack.T250 (k : Nat) (x : Gr01_Pack.fr250.T) (κ : Kp (Tp Gr01_Pack.rk) Gr01_Pack.ou250) : Option (Tp Gr01_Pack.rk) := Gr01_Pack.l250 k x.1 x.2.1 x.2.2.1 x.2.2.2 κ.1
def Gr01_Pack.fr252 : Fr := [(3, .bx (.st 45)), (6, .own 3)]
def Gr01_Pack.ou252 : Outs := [(3, [(3, .bx (.st 45)), (6, .own 3)])]
def Gr01_Pack.T252 (k : Nat) (x : Gr01_Pack.fr252.T) (κ : Kp (Tp Gr01_Pack.rk) Gr01_Pack.ou252) : Option (Tp Gr01_Pack.rk) := Gr01_Pack.l252 k x.1 x.2 κ.1
def Gr01_Pack.fr2042 : Fr := [(3, .bx (.st 45)), (6, .own 3), (8, .own 3), (9, .int .i64)]
def Gr01_Pack.ou2042 : Outs := [(5, [(8, .own 3)])]
def Gr01_Pack.T2042 (k : Nat) (x : Gr01_Pack.fr2042.T) (κ : Kp (Tp Gr01_Pack.rk) Gr01_Pack.ou2042) : Option (Tp Gr01_Pack.rk) := Gr01_Pack.l2042 k x.1 x.2.1 x.2.2.1 x.2.2.2 κ.1
def Gr01_Pack.Λ0 : Cuts (Tp Gr01_Pack.rk) := cutsOf []
def Gr01_Pack.Λ1 : Cuts (Tp Gr01_Pack.rk) := cutsOf [(250, cut Try.prog Gr01_Pack.fr250 Gr01_Pack.ou250 (Gr01_Pack.T250 NN))]
def Gr01_Pack.Λ2 : Cuts (Tp Gr01_Pack.rk) := cutsOf [(252, cut Try.prog Gr01_Pack.fr252 Gr01_Pack.ou252 (Gr01_Pack.T252 NN)), (250, cut Try.prog Gr01_Pack.fr250 Gr01_Pack.ou250 (Gr01_Pack.T250 NN))]
def Gr01_Pack.Λ : Cuts (Tp Gr01_Pack.rk) := cutsOf [(2042, cut Try.prog Gr01_Pack.fr2042 Gr01_Pack.ou2042 (Gr01_Pack.T2042 NN)), (252, cut Try.prog Gr01_Pack.fr252 Gr01_Pack.ou252 (Gr01_Pack.T252 NN)), (250, cut Try.prog Gr01_Pack.fr250 Gr01_Pack.ou250 (Gr01_Pack.T250 NN))]
theorem Gr01_Pack.c250 (A : Nat → Prop) (w0 : World) : CutOk Try.prog ⟨Try.f59.ntmps, A⟩ w0 (kRet Try.prog Try.f59.results.toList Gr01_Pack.rk) (bodyOf Try.f59) 250 (cut Try.prog Gr01_Pack.fr250 Gr01_Pack.ou250 (Gr01_Pack.T250 NN)) :=
  loop_ok Gr01_Pack.hρ (Λ := Gr01_Pack.Λ0) (cuts_nil) (by kernel_rfl) (D := 64) (b := loopOf Try.f59 250) (by kernel_rfl) (by kernel_rfl) NN (fun x κ => by kernel_rfl) (fun k x κ => by kernel_rfl)
theorem Gr01_Pack.c252 (A : Nat → Prop) (w0 : World) : CutOk Try.prog ⟨Try.f59.ntmps, A⟩ w0 (kRet Try.prog Try.f59.results.toList Gr01_Pack.rk) (bodyOf Try.f59) 252 (cut Try.prog Gr01_Pack.fr252 Gr01_Pack.ou252 (Gr01_Pack.T252 NN)) :=
  loop_ok Gr01_Pack.hρ (Λ := Gr01_Pack.Λ1) (cuts_cons (Gr01_Pack.c250 A w0) (cuts_nil)) (by kernel_rfl) (D := 64) (b := loopOf Try.f59 252) (by kernel_rfl) (by kernel_rfl) NN (fun x κ => by kernel_rfl) (fun k x κ => by kernel_rfl)
theorem Gr01_Pack.c2042 (A : Nat → Prop) (w0 : World) : CutOk Try.prog ⟨Try.f59.ntmps, A⟩ w0 (kRet Try.prog Try.f59.results.toList Gr01_Pack.rk) (bodyOf Try.f59) 2042 (cut Try.prog Gr01_Pack.fr2042 Gr01_Pack.ou2042 (Gr01_Pack.T2042 NN)) :=
  loop_ok Gr01_Pack.hρ (Λ := Gr01_Pack.Λ2) (cuts_cons (Gr01_Pack.c252 A w0) (cuts_cons (Gr01_Pack.c250 A w0) (cuts_nil))) (by kernel_rfl) (D := 64) (b := loopOf Try.f59 2042) (by kernel_rfl) (by kernel_rfl) NN (fun x κ => by kernel_rfl) (fun k x κ => by kernel_rfl)
theorem Gr01_Pack.spec : Spec Try.prog 59 Gr01_Pack.pk Gr01_Pack.rk Gr01_Pack.g :=
  spec_of_body (fn := Try.f59) (c := bodyOf Try.f59) (by kernel_rfl) (by kernel_rfl) (by kernel_rfl) (by kernel_rfl) (ρ := Gr01_Pack.ρ) Gr01_Pack.hρ (Λ := Gr01_Pack.Λ) (fun A w0 => cuts_cons (Gr01_Pack.c2042 A w0) (cuts_cons (Gr01_Pack.c252 A w0) (cuts_cons (Gr01_Pack.c250 A w0) (cuts_nil)))) (fun x => by kernel_rfl)

/-! ### 60 bluebell/bluebellref01.Norm -/
def Gr01_Norm.f (a0 : Int) (a1 : Int) : Option (Int × Int) :=
  (Gr01_Bits.f a1).bind fun r1 => bif (!r1) then some (0, 3) else (Gr01_norm.f a0 a1).bind fun r2 => some (r2, 0)
def Gr01_Norm.pk : List FK := [.int .i64, .int .i64]
def Gr01_Norm.rk : List FK := [.int .i64, .int .i64]
def Gr01_Norm.g : Tp Gr01_Norm.pk → Option (Tp Gr01_Norm.rk) := fun x => Gr01_Norm.f x.1 x.2
def Gr01_Norm.ρ : List (Entry (Tp Gr01_Norm.rk)) := [entry _ Try.prog 78 Gr01_Bits.pk Gr01_Bits.rk Gr01_Bits.g, entry _ Try.prog 83 Gr01_norm.pk Gr01_norm.rk Gr01_norm.g]
theorem Gr01_Norm.hρ : ∀ e ∈ Gr01_Norm.ρ, EntryOk Try.prog e :=
  ents_cons (ent (fn := Try.f78) Gr01_Bits.spec (by kernel_rfl) (by kernel_rfl) (by kernel_rfl) (by kernel_rfl)) (ents_cons (ent (fn := Try.f83) Gr01_norm.spec (by kernel_rfl) (by kernel_rfl) (by kernel_rfl) (by kernel_rfl)) (ents_nil))
def Gr01_Norm.Λ : Cuts (Tp Gr01_Norm.rk) := cutsOf []
theorem Gr01_Norm.spec : Spec Try.prog 60 Gr01_Norm.pk Gr01_Norm.rk Gr01_Norm.g :=
  spec_of_body (fn := Try.f60) (c := bodyOf Try.f60) (by kernel_rfl) (by kernel_rfl) (by kernel_rfl) (by kernel_rfl) (ρ := Gr01_Norm.ρ) Gr01_Norm.hρ (Λ := Gr01_Norm.Λ) (fun A w0 => cuts_nil) (fun x => by kernel_rfl)

/-! ### 33 bluebell/bluebellref06.Words -/
def Gr06_Words.l250 : Nat → D → D → (List D) → Int → (List D → Option (List D × Int)) → Option (List D × Int)
  | 0, _, _, _, _, _ => none
  | k + 1, v2, v3, v6, v7, κ1 =>
    bif decide (v7 < (((v2.cell 2).list).length : Int)) then gd (inB v7 ((v2.cell 2).list).length) ((Gr01_Norm.f ((rd ((v2.cell 2).list) v7.toNat).int) ((v3.cell 0).int)).bind fun r3 => gd (Nat.ble (v6.length + ([.i r3.1] : List D).length) lim) (Gr06_Words.l250 k v2 v3 (v6 ++ ([.i r3.1] : List D)) (IntKind.i64.wrap (v7 + 1)) κ1)) else κ1 v6
def Gr06_Words.f (a0 : D) (a1 : D) : Option (List D × Int) :=
  (Gr01_Valid.f a1).bind fun r1 => bif (!r1) then some ([], 3) else bif (a0.cell 1).bool then (Gr01_Pack.f ((a0.cell 0).str) a1).bind fun r2 => some (r2.1, r2.2) else Gr06_Words.l250 NN a0 a1 [] 0 (fun y4 => some (y4, 0))
def Gr06_Words.pk : List FK := [.st 47, .st 45]
def Gr06_Words.rk : List FK := [.own 3, .int .i64]
def Gr06_Words.g : Tp Gr06_Words.pk → Option (Tp Gr06_Words.rk) := fun x => Gr06_Words.f x.1 x.2
def Gr06_Words.ρ : List (Entry (Tp Gr06_Words.rk)) := [entry _ Try.prog 56 Gr01_Valid.pk Gr01_Valid.rk Gr01_Valid.g, entry _ Try.prog 59 Gr01_Pack.pk Gr01_Pack.rk Gr01_Pack.g, entry _ Try.prog 60 Gr01_Norm.pk Gr01_Norm.rk Gr01_Norm.g]
theorem Gr06_Words.hρ : ∀ e ∈ Gr06_Words.ρ, EntryOk Try.prog e :=
  ents_cons (ent (fn := Try.f56) Gr01_Valid.spec (by kernel_rfl) (by kernel_rfl) (by kernel_rfl) (by kernel_rfl)) (ents_cons (ent (fn := Try.f59) Gr01_Pack.spec (by kernel_rfl) (by kernel_rfl) (by kernel_rfl) (by kernel_rfl)) (ents_cons (ent (fn := Try.f60) Gr01_Norm.spec (by kernel_rfl) (by kernel_rfl) (by kernel_rfl) (by kernel_rfl)) (ents_nil)))
def Gr06_Words.fr250 : Fr := [(2, .bx (.st 47)), (3, .bx (.st 45)), (6, .own 3), (7, .int .i64)]
def Gr06_Words.ou250 : Outs := [(1, [(6, .own 3)])]
def Gr06_Words.T250 (k : Nat) (x : Gr06_Words.fr250.T) (κ : Kp (Tp Gr06_Words.rk) Gr06_Words.ou250) : Option (Tp Gr06_Words.rk) := Gr06_Words.l250 k x.1 x.2.1 x.2.2.1 x.2.2.2 κ.1
def Gr06_Words.Λ0 : Cuts (Tp Gr06_Words.rk) := cutsOf []
def Gr06_Words.Λ : Cuts (Tp Gr06_Words.rk) := cutsOf [(250, cut Try.prog Gr06_Words.fr250 Gr06_Words.ou250 (Gr06_Words.T250 NN))]
theorem Gr06_Words.c250 (A : Nat → Prop) (w0 : World) : CutOk Try.prog ⟨Try.f33.ntmps, A⟩ w0 (kRet Try.prog Try.f33.results.toList Gr06_Words.rk) (bodyOf Try.f33) 250 (cut Try.prog Gr06_Words.fr250 Gr06_Words.ou250 (Gr06_Words.T250 NN)) :=
  loop_ok Gr06_Words.hρ (Λ := Gr06_Words.Λ0) (cuts_nil) (by kernel_rfl) (D := 64) (b := loopOf Try.f33 250) (by kernel_rfl) (by kernel_rfl) NN (fun x κ => by kernel_rfl) (fun k x κ => by kernel_rfl)
theorem Gr06_Words.spec : Spec Try.prog 33 Gr06_Words.pk Gr06_Words.rk Gr06_Words.g :=
  spec_of_body (fn := Try.f33) (c := bodyOf Try.f33) (by kernel_rfl) (by kernel_rfl) (by kernel_rfl) (by kernel_rfl) (ρ := Gr06_Words.ρ) Gr06_Words.hρ (Λ := Gr06_Words.Λ) (fun A w0 => cuts_cons (Gr06_Words.c250 A w0) (cuts_nil)) (fun x => by kernel_rfl)

/-! ### 31 bluebell/bluebellref06.Layout -/
def Gr06_Layout.l1018 : Nat → D → D → (List D) → Int → Int → ((List D × Int) → Option (List D × Int × Int)) → Option (List D × Int × Int)
  | 0, _, _, _, _, _, _ => none
  | k + 1, v2, v3, v8, v9, v10, κ1 =>
    bif decide (v10 < (((v2.cell 1).list).length : Int)) then gd (inB v10 ((v2.cell 1).list).length) ((Gr06_Words.f (rd ((v2.cell 1).list) v10.toNat) v3).bind fun r3 => gd (Nat.ble (v8.length + ([.i v9] : List D).length) lim) (Gr06_Layout.l1018 k v2 v3 (v8 ++ ([.i v9] : List D)) (IntKind.i64.wrap (v9 + (r3.1.length : Int))) (IntKind.i64.wrap (v10 + 1)) κ1)) else κ1 (v8, v9)
def Gr06_Layout.f (a0 : D) (a1 : D) : Option (List D × Int × Int) :=
  (Gr06_Check.f a0).bind fun r1 => bif (r1 != 0) then some ([], 0, r1) else (Gr01_Valid.f a1).bind fun r2 => bif (!r2) then some ([], 0, 3) else Gr06_Layout.l1018 NN a0 a1 [] 200 0 (fun y4 => bif decide (y4.2 > 8000) then some ([], 0, 2) else some (y4.1, y4.2, 0))
def Gr06_Layout.pk : List FK := [.st 26, .st 45]
def Gr06_Layout.rk : List FK := [.own 3, .int .i64, .int .i64]
def Gr06_Layout.g : Tp Gr06_Layout.pk → Option (Tp Gr06_Layout.rk) := fun x => Gr06_Layout.f x.1 x.2
def Gr06_Layout.ρ : List (Entry (Tp Gr06_Layout.rk)) := [entry _ Try.prog 22 Gr06_Check.pk Gr06_Check.rk Gr06_Check.g, entry _ Try.prog 56 Gr01_Valid.pk Gr01_Valid.rk Gr01_Valid.g, entry _ Try.prog 33 Gr06_Words.pk Gr06_Words.rk Gr06_Words.g]
theorem Gr06_Layout.hρ : ∀ e ∈ Gr06_Layout.ρ, EntryOk Try.prog e :=
  ents_cons (ent (fn := Try.f22) Gr06_Check.spec (by kernel_rfl) (by kernel_rfl) (by kernel_rfl) (by kernel_rfl)) (ents_cons (ent (fn := Try.f56) Gr01_Valid.spec (by kernel_rfl) (by kernel_rfl) (by kernel_rfl) (by kernel_rfl)) (ents_cons (ent (fn := Try.f33) Gr06_Words.spec (by kernel_rfl) (by kernel_rfl) (by kernel_rfl) (by kernel_rfl)) (ents_nil)))
def Gr06_Layout.fr1018 : Fr := [(2, .bx (.st 26)), (3, .bx (.st 45)), (8, .own 3), (9, .int .i64), (10, .int .i64)]
def Gr06_Layout.ou1018 : Outs := [(1, [(8, .own 3), (9, .int .i64)])]
def Gr06_Layout.T1018 (k : Nat) (x : Gr06_Layout.fr1018.T) (κ : Kp (Tp Gr06_Layout.rk) Gr06_Layout.ou1018) : Option (Tp Gr06_Layout.rk) := Gr06_Layout.l1018 k x.1 x.2.1 x.2.2.1 x.2.2.2.1 x.2.2.2.2 κ.1
def Gr06_Layout.Λ0 : Cuts (Tp Gr06_Layout.rk) := cutsOf []
def Gr06_Layout.Λ : Cuts (Tp Gr06_Layout.rk) := cutsOf [(1018, cut Try.prog Gr06_Layout.fr1018 Gr06_Layout.ou1018 (Gr06_Layout.T1018 NN))]
theorem Gr06_Layout.c1018 (A : Nat → Prop) (w0 : World) : CutOk Try.prog ⟨Try.f31.ntmps, A⟩ w0 (kRet Try.prog Try.f31.results.toList Gr06_Layout.rk) (bodyOf Try.f31) 1018 (cut Try.prog Gr06_Layout.fr1018 Gr06_Layout.ou1018 (Gr06_Layout.T1018 NN)) :=
  loop_ok Gr06_Layout.hρ (Λ := Gr06_Layout.Λ0) (cuts_nil) (by kernel_rfl) (D := 64) (b := loopOf Try.f31 1018) (by kernel_rfl) (by kernel_rfl) NN (fun x κ => by kernel_rfl) (fun k x κ => by kernel_rfl)
theorem Gr06_Layout.spec : Spec Try.prog 31 Gr06_Layout.pk Gr06_Layout.rk Gr06_Layout.g :=
  spec_of_body (fn := Try.f31) (c := bodyOf Try.f31) (by kernel_rfl) (by kernel_rfl) (by kernel_rfl) (by kernel_rfl) (ρ := Gr06_Layout.ρ) Gr06_Layout.hρ (Λ := Gr06_Layout.Λ) (fun A w0 => cuts_cons (Gr06_Layout.c1018 A w0) (cuts_nil)) (fun x => by kernel_rfl)

/-! ### 10 bluebell/bluebelllaw06.OcodeLays -/
def Gw06_OcodeLays.f (a0 : D) (a1 : D) (a2 : D) : Option Bool :=
  (Gw06_heavy.f a0).bind fun r1 => bif ((r1 || (decide ((((a2.cell 2).list).length : Int) > 10000))) || (decide ((((a2.cell 0).str).size : Int) > 10000))) then (Gw06_awake.f).bind fun r2 => some r2 else (Gocode_Layout.f a0 a1).bind fun r3 => (Gr06_Layout.f a0 a1).bind fun r4 => (Gocode_Words.f a2 a1).bind fun r5 => (Gr06_Words.f a2 a1).bind fun r6 => (Gr00_EqInts.f r3.1 r4.1).bind fun r7 => (bif ((r7 && (r3.2.1 == r4.2.1)) && (r3.2.2 == r4.2.2)) then Gr00_EqInts.f r5.1 r6.1 else some false).bind fun r8 => (bif ((((r7 && (r3.2.1 == r4.2.1)) && (r3.2.2 == r4.2.2)) && r8) && (r5.2 == r6.2)) then Gw06_awake.f else some false).bind fun r9 => some (((((r7 && (r3.2.1 == r4.2.1)) && (r3.2.2 == r4.2.2)) && r8) && (r5.2 == r6.2)) && r9)
def Gw06_OcodeLays.pk : List FK := [.st 26, .st 45, .st 47]
def Gw06_OcodeLays.rk : List FK := [.bool]
def Gw06_OcodeLays.g : Tp Gw06_OcodeLays.pk → Option (Tp Gw06_OcodeLays.rk) := fun x => Gw06_OcodeLays.f x.1 x.2.1 x.2.2
def Gw06_OcodeLays.ρ : List (Entry (Tp Gw06_OcodeLays.rk)) := [entry _ Try.prog 12 Gw06_heavy.pk Gw06_heavy.rk Gw06_heavy.g, entry _ Try.prog 13 Gw06_awake.pk Gw06_awake.rk Gw06_awake.g, entry _ Try.prog 30 Gocode_Layout.pk Gocode_Layout.rk Gocode_Layout.g, entry _ Try.prog 31 Gr06_Layout.pk Gr06_Layout.rk Gr06_Layout.g, entry _ Try.prog 32 Gocode_Words.pk Gocode_Words.rk Gocode_Words.g, entry _ Try.prog 33 Gr06_Words.pk Gr06_Words.rk Gr06_Words.g, entry _ Try.prog 19 Gr00_EqInts.pk Gr00_EqInts.rk Gr00_EqInts.g]
theorem Gw06_OcodeLays.hρ : ∀ e ∈ Gw06_OcodeLays.ρ, EntryOk Try.prog e :=
  ents_cons (ent (fn := Try.f12) Gw06_heavy.spec (by kernel_rfl) (by kernel_rfl) (by kernel_rfl) (by kernel_rfl)) (ents_cons (ent (fn := Try.f13) Gw06_awake.spec (by kernel_rfl) (by kernel_rfl) (by kernel_rfl) (by kernel_rfl)) (ents_cons (ent (fn := Try.f30) Gocode_Layout.spec (by kernel_rfl) (by kernel_rfl) (by kernel_rfl) (by kernel_rfl)) (ents_cons (ent (fn := Try.f31) Gr06_Layout.spec (by kernel_rfl) (by kernel_rfl) (by kernel_rfl) (by kernel_rfl)) (ents_cons (ent (fn := Try.f32) Gocode_Words.spec (by kernel_rfl) (by kernel_rfl) (by kernel_rfl) (by kernel_rfl)) (ents_cons (ent (fn := Try.f33) Gr06_Words.spec (by kernel_rfl) (by kernel_rfl) (by kernel_rfl) (by kernel_rfl)) (ents_cons (ent (fn := Try.f19) Gr00_EqInts.spec (by kernel_rfl) (by kernel_rfl) (by kernel_rfl) (by kernel_rfl)) (ents_nil)))))))
def Gw06_OcodeLays.Λ : Cuts (Tp Gw06_OcodeLays.rk) := cutsOf []
theorem Gw06_OcodeLays.spec : Spec Try.prog 10 Gw06_OcodeLays.pk Gw06_OcodeLays.rk Gw06_OcodeLays.g :=
  spec_of_body (fn := Try.f10) (c := bodyOf Try.f10) (by kernel_rfl) (by kernel_rfl) (by kernel_rfl) (by kernel_rfl) (ρ := Gw06_OcodeLays.ρ) Gw06_OcodeLays.hρ (Λ := Gw06_OcodeLays.Λ) (fun A w0 => cuts_nil) (fun x => by kernel_rfl)

/-! ### 49 slices.Equal[[]int,int] -/
def Gslices_Equal___int_int.l58 : Nat → (List D) → (List D) → Int → Int → (Unit → Option Bool) → Option Bool
  | 0, _, _, _, _, _ => none
  | k + 1, v0, v1, v12, v13, κ1 =>
    bif decide (v13 < v12) then gd (inB v13 v0.length) (gd (inB v13 v1.length) (bif (((rd v0 v13.toNat).int) != ((rd v1 v13.toNat).int)) then some false else Gslices_Equal___int_int.l58 k v0 v1 v12 (IntKind.i64.wrap (v13 + 1)) κ1)) else κ1 ()
def Gslices_Equal___int_int.f (a0 : List D) (a1 : List D) : Option Bool :=
  bif ((a0.length : Int) != (a1.length : Int)) then some false else Gslices_Equal___int_int.l58 NN a0 a1 (a0.length : Int) 0 (fun y1 => some true)
def Gslices_Equal___int_int.pk : List FK := [.sl 3, .sl 3]
def Gslices_Equal___int_int.rk : List FK := [.bool]
def Gslices_Equal___int_int.g : Tp Gslices_Equal___int_int.pk → Option (Tp Gslices_Equal___int_int.rk) := fun x => Gslices_Equal___int_int.f x.1 x.2
def Gslices_Equal___int_int.ρ : List (Entry (Tp Gslices_Equal___int_int.rk)) := []
theorem Gslices_Equal___int_int.hρ : ∀ e ∈ Gslices_Equal___int_int.ρ, EntryOk Try.prog e :=
  ents_nil
def Gslices_Equal___int_int.fr58 : Fr := [(0, .sl 3), (1, .sl 3), (12, .int .i64), (13, .int .i64)]
def Gslices_Equal___int_int.ou58 : Outs := [(1, [])]
def Gslices_Equal___int_int.T58 (k : Nat) (x : Gslices_Equal___int_int.fr58.T) (κ : Kp (Tp Gslices_Equal___int_int.rk) Gslices_Equal___int_int.ou58) : Option (Tp Gslices_Equal___int_int.rk) := Gslices_Equal___int_int.l58 k x.1 x.2.1 x.2.2.1 x.2.2.2 κ.1
def Gslices_Equal___int_int.Λ0 : Cuts (Tp Gslices_Equal___int_int.rk) := cutsOf []
def Gslices_Equal___int_int.Λ : Cuts (Tp Gslices_Equal___int_int.rk) := cutsOf [(58, cut Try.prog Gslices_Equal___int_int.fr58 Gslices_Equal___int_int.ou58 (Gslices_Equal___int_int.T58 NN))]
theorem Gslices_Equal___int_int.c58 (A : Nat → Prop) (w0 : World) : CutOk Try.prog ⟨Try.f49.ntmps, A⟩ w0 (kRet Try.prog Try.f49.results.toList Gslices_Equal___int_int.rk) (bodyOf Try.f49) 58 (cut Try.prog Gslices_Equal___int_int.fr58 Gslices_Equal___int_int.ou58 (Gslices_Equal___int_int.T58 NN)) :=
  loop_ok Gslices_Equal___int_int.hρ (Λ := Gslices_Equal___int_int.Λ0) (cuts_nil) (by kernel_rfl) (D := 64) (b := loopOf Try.f49 58) (by kernel_rfl) (by kernel_rfl) NN (fun x κ => by kernel_rfl) (fun k x κ => by kernel_rfl)
theorem Gslices_Equal___int_int.spec : Spec Try.prog 49 Gslices_Equal___int_int.pk Gslices_Equal___int_int.rk Gslices_Equal___int_int.g :=
  spec_of_body (fn := Try.f49) (c := bodyOf Try.f49) (by kernel_rfl) (by kernel_rfl) (by kernel_rfl) (by kernel_rfl) (ρ := Gslices_Equal___int_int.ρ) Gslices_Equal___int_int.hρ (Λ := Gslices_Equal___int_int.Λ) (fun A w0 => cuts_cons (Gslices_Equal___int_int.c58 A w0) (cuts_nil)) (fun x => by kernel_rfl)

/-! ### 48 bluebell/ocode.Same$1 -/
def Gocode_Same_1.f (a0 : D) (a1 : D) : Option Bool :=
  (bif ((((a0.cell 1).bool) == ((a1.cell 1).bool)) && (((a0.cell 0).str).toList == ((a1.cell 0).str).toList)) then Gslices_Equal___int_int.f ((a0.cell 2).list) ((a1.cell 2).list) else some false).bind fun r1 => some (((((a0.cell 1).bool) == ((a1.cell 1).bool)) && (((a0.cell 0).str).toList == ((a1.cell 0).str).toList)) && r1)
def Gocode_Same_1.pk : List FK := [.st 47, .st 47]
def Gocode_Same_1.rk : List FK := [.bool]
def Gocode_Same_1.g : Tp Gocode_Same_1.pk → Option (Tp Gocode_Same_1.rk) := fun x => Gocode_Same_1.f x.1 x.2
def Gocode_Same_1.ρ : List (Entry (Tp Gocode_Same_1.rk)) := [entry _ Try.prog 49 Gslices_Equal___int_int.pk Gslices_Equal___int_int.rk Gslices_Equal___int_int.g]
theorem Gocode_Same_1.hρ : ∀ e ∈ Gocode_Same_1.ρ, EntryOk Try.prog e :=
  ents_cons (ent (fn := Try.f49) Gslices_Equal___int_int.spec (by kernel_rfl) (by kernel_rfl) (by kernel_rfl) (by kernel_rfl)) (ents_nil)
def Gocode_Same_1.Λ : Cuts (Tp Gocode_Same_1.rk) := cutsOf []
theorem Gocode_Same_1.spec : Spec Try.prog 48 Gocode_Same_1.pk Gocode_Same_1.rk Gocode_Same_1.g :=
  spec_of_body (fn := Try.f48) (c := bodyOf Try.f48) (by kernel_rfl) (by kernel_rfl) (by kernel_rfl) (by kernel_rfl) (ρ := Gocode_Same_1.ρ) Gocode_Same_1.hρ (Λ := Gocode_Same_1.Λ) (fun A w0 => cuts_nil) (fun x => by kernel_rfl)

/-! ### 50 slices.Equal[[]bluebell/api.Op,bluebell/api.Op] -/
def Gslices_Equal___bluebell_api_Op_bluebell_api_Op.l58 : Nat → (List D) → (List D) → Int → Int → (Unit → Option Bool) → Option Bool
  | 0, _, _, _, _, _ => none
  | k + 1, v0, v1, v12, v13, κ1 =>
    bif decide (v13 < v12) then gd (inB v13 v0.length) (gd (inB v13 v1.length) (bif (!(((((rd v0 v13.toNat).cell 0).int) == (((rd v1 v13.toNat).cell 0).int)) && (((((rd v0 v13.toNat).cell 1).int) == (((rd v1 v13.toNat).cell 1).int)) && (((((rd v0 v13.toNat).cell 2).int) == (((rd v1 v13.toNat).cell 2).int)) && true)))) then some false else Gslices_Equal___bluebell_api_Op_bluebell_api_Op.l58 k v0 v1 v12 (IntKind.i64.wrap (v13 + 1)) κ1)) else κ1 ()
def Gslices_Equal___bluebell_api_Op_bluebell_api_Op.f (a0 : List D) (a1 : List D) : Option Bool :=
  bif ((a0.length : Int) != (a1.length : Int)) then some false else Gslices_Equal___bluebell_api_Op_bluebell_api_Op.l58 NN a0 a1 (a0.length : Int) 0 (fun y1 => some true)
def Gslices_Equal___bluebell_api_Op_bluebell_api_Op.pk : List FK := [.sl 35, .sl 35]
def Gslices_Equal___bluebell_api_Op_bluebell_api_Op.rk : List FK := [.bool]
def Gslices_Equal___bluebell_api_Op_bluebell_api_Op.g : Tp Gslices_Equal___bluebell_api_Op_bluebell_api_Op.pk → Option (Tp Gslices_Equal___bluebell_api_Op_bluebell_api_Op.rk) := fun x => Gslices_Equal___bluebell_api_Op_bluebell_api_Op.f x.1 x.2
def Gslices_Equal___bluebell_api_Op_bluebell_api_Op.ρ : List (Entry (Tp Gslices_Equal___bluebell_api_Op_bluebell_api_Op.rk)) := []
theorem Gslices_Equal___bluebell_api_Op_bluebell_api_Op.hρ : ∀ e ∈ Gslices_Equal___bluebell_api_Op_bluebell_api_Op.ρ, EntryOk Try.prog e :=
  ents_nil
def Gslices_Equal___bluebell_api_Op_bluebell_api_Op.fr58 : Fr := [(0, .sl 35), (1, .sl 35), (12, .int .i64), (13, .int .i64)]
def Gslices_Equal___bluebell_api_Op_bluebell_api_Op.ou58 : Outs := [(1, [])]
def Gslices_Equal___bluebell_api_Op_bluebell_api_Op.T58 (k : Nat) (x : Gslices_Equal___bluebell_api_Op_bluebell_api_Op.fr58.T) (κ : Kp (Tp Gslices_Equal___bluebell_api_Op_bluebell_api_Op.rk) Gslices_Equal___bluebell_api_Op_bluebell_api_Op.ou58) : Option (Tp Gslices_Equal___bluebell_api_Op_bluebell_api_Op.rk) := Gslices_Equal___bluebell_api_Op_bluebell_api_Op.l58 k x.1 x.2.1 x.2.2.1 x.2.2.2 κ.1
def Gslices_Equal___bluebell_api_Op_bluebell_api_Op.Λ0 : Cuts (Tp Gslices_Equal___bluebell_api_Op_bluebell_api_Op.rk) := cutsOf []
def Gslices_Equal___bluebell_api_Op_bluebell_api_Op.Λ : Cuts (Tp Gslices_Equal___bluebell_api_Op_bluebell_api_Op.rk) := cutsOf [(58, cut Try.prog Gslices_Equal___bluebell_api_Op_bluebell_api_Op.fr58 Gslices_Equal___bluebell_api_Op_bluebell_api_Op.ou58 (Gslices_Equal___bluebell_api_Op_bluebell_api_Op.T58 NN))]
theorem Gslices_Equal___bluebell_api_Op_bluebell_api_Op.c58 (A : Nat → Prop) (w0 : World) : CutOk Try.prog ⟨Try.f50.ntmps, A⟩ w0 (kRet Try.prog Try.f50.results.toList Gslices_Equal___bluebell_api_Op_bluebell_api_Op.rk) (bodyOf Try.f50) 58 (cut Try.prog Gslices_Equal___bluebell_api_Op_bluebell_api_Op.fr58 Gslices_Equal___bluebell_api_Op_bluebell_api_Op.ou58 (Gslices_Equal___bluebell_api_Op_bluebell_api_Op.T58 NN)) :=
  loop_ok Gslices_Equal___bluebell_api_Op_bluebell_api_Op.hρ (Λ := Gslices_Equal___bluebell_api_Op_bluebell_api_Op.Λ0) (cuts_nil) (by kernel_rfl) (D := 64) (b := loopOf Try.f50 58) (by kernel_rfl) (by kernel_rfl) NN (fun x κ => by kernel_rfl) (fun k x κ => by kernel_rfl)
theorem Gslices_Equal___bluebell_api_Op_bluebell_api_Op.spec : Spec Try.prog 50 Gslices_Equal___bluebell_api_Op_bluebell_api_Op.pk Gslices_Equal___bluebell_api_Op_bluebell_api_Op.rk Gslices_Equal___bluebell_api_Op_bluebell_api_Op.g :=
  spec_of_body (fn := Try.f50) (c := bodyOf Try.f50) (by kernel_rfl) (by kernel_rfl) (by kernel_rfl) (by kernel_rfl) (ρ := Gslices_Equal___bluebell_api_Op_bluebell_api_Op.ρ) Gslices_Equal___bluebell_api_Op_bluebell_api_Op.hρ (Λ := Gslices_Equal___bluebell_api_Op_bluebell_api_Op.Λ) (fun A w0 => cuts_cons (Gslices_Equal___bluebell_api_Op_bluebell_api_Op.c58 A w0) (cuts_nil)) (fun x => by kernel_rfl)

/-! ### 51 slices.Equal[[]bluebell/api.Entry,bluebell/api.Entry] -/
def Gslices_Equal___bluebell_api_Entry_bluebell_api_Entry.l58 : Nat → (List D) → (List D) → Int → Int → (Unit → Option Bool) → Option Bool
  | 0, _, _, _, _, _ => none
  | k + 1, v0, v1, v12, v13, κ1 =>
    bif decide (v13 < v12) then gd (inB v13 v0.length) (gd (inB v13 v1.length) (bif (!(((((rd v0 v13.toNat).cell 0).int) == (((rd v1 v13.toNat).cell 0).int)) && (((((rd v0 v13.toNat).cell 1).int) == (((rd v1 v13.toNat).cell 1).int)) && true))) then some false else Gslices_Equal___bluebell_api_Entry_bluebell_api_Entry.l58 k v0 v1 v12 (IntKind.i64.wrap (v13 + 1)) κ1)) else κ1 ()
def Gslices_Equal___bluebell_api_Entry_bluebell_api_Entry.f (a0 : List D) (a1 : List D) : Option Bool :=
  bif ((a0.length : Int) != (a1.length : Int)) then some false else Gslices_Equal___bluebell_api_Entry_bluebell_api_Entry.l58 NN a0 a1 (a0.length : Int) 0 (fun y1 => some true)
def Gslices_Equal___bluebell_api_Entry_bluebell_api_Entry.pk : List FK := [.sl 68, .sl 68]
def Gslices_Equal___bluebell_api_Entry_bluebell_api_Entry.rk : List FK := [.bool]
def Gslices_Equal___bluebell_api_Entry_bluebell_api_Entry.g : Tp Gslices_Equal___bluebell_api_Entry_bluebell_api_Entry.pk → Option (Tp Gslices_Equal___bluebell_api_Entry_bluebell_api_Entry.rk) := fun x => Gslices_Equal___bluebell_api_Entry_bluebell_api_Entry.f x.1 x.2
def Gslices_Equal___bluebell_api_Entry_bluebell_api_Entry.ρ : List (Entry (Tp Gslices_Equal___bluebell_api_Entry_bluebell_api_Entry.rk)) := []
theorem Gslices_Equal___bluebell_api_Entry_bluebell_api_Entry.hρ : ∀ e ∈ Gslices_Equal___bluebell_api_Entry_bluebell_api_Entry.ρ, EntryOk Try.prog e :=
  ents_nil
def Gslices_Equal___bluebell_api_Entry_bluebell_api_Entry.fr58 : Fr := [(0, .sl 68), (1, .sl 68), (12, .int .i64), (13, .int .i64)]
def Gslices_Equal___bluebell_api_Entry_bluebell_api_Entry.ou58 : Outs := [(1, [])]
def Gslices_Equal___bluebell_api_Entry_bluebell_api_Entry.T58 (k : Nat) (x : Gslices_Equal___bluebell_api_Entry_bluebell_api_Entry.fr58.T) (κ : Kp (Tp Gslices_Equal___bluebell_api_Entry_bluebell_api_Entry.rk) Gslices_Equal___bluebell_api_Entry_bluebell_api_Entry.ou58) : Option (Tp Gslices_Equal___bluebell_api_Entry_bluebell_api_Entry.rk) := Gslices_Equal___bluebell_api_Entry_bluebell_api_Entry.l58 k x.1 x.2.1 x.2.2.1 x.2.2.2 κ.1
def Gslices_Equal___bluebell_api_Entry_bluebell_api_Entry.Λ0 : Cuts (Tp Gslices_Equal___bluebell_api_Entry_bluebell_api_Entry.rk) := cutsOf []
def Gslices_Equal___bluebell_api_Entry_bluebell_api_Entry.Λ : Cuts (Tp Gslices_Equal___bluebell_api_Entry_bluebell_api_Entry.rk) := cutsOf [(58, cut Try.prog Gslices_Equal___bluebell_api_Entry_bluebell_api_Entry.fr58 Gslices_Equal___bluebell_api_Entry_bluebell_api_Entry.ou58 (Gslices_Equal___bluebell_api_Entry_bluebell_api_Entry.T58 NN))]
theorem Gslices_Equal___bluebell_api_Entry_bluebell_api_Entry.c58 (A : Nat → Prop) (w0 : World) : CutOk Try.prog ⟨Try.f51.ntmps, A⟩ w0 (kRet Try.prog Try.f51.results.toList Gslices_Equal___bluebell_api_Entry_bluebell_api_Entry.rk) (bodyOf Try.f51) 58 (cut Try.prog Gslices_Equal___bluebell_api_Entry_bluebell_api_Entry.fr58 Gslices_Equal___bluebell_api_Entry_bluebell_api_Entry.ou58 (Gslices_Equal___bluebell_api_Entry_bluebell_api_Entry.T58 NN)) :=
  loop_ok Gslices_Equal___bluebell_api_Entry_bluebell_api_Entry.hρ (Λ := Gslices_Equal___bluebell_api_Entry_bluebell_api_Entry.Λ0) (cuts_nil) (by kernel_rfl) (D := 64) (b := loopOf Try.f51 58) (by kernel_rfl) (by kernel_rfl) NN (fun x κ => by kernel_rfl) (fun k x κ => by kernel_rfl)
theorem Gslices_Equal___bluebell_api_Entry_bluebell_api_Entry.spec : Spec Try.prog 51 Gslices_Equal___bluebell_api_Entry_bluebell_api_Entry.pk Gslices_Equal___bluebell_api_Entry_bluebell_api_Entry.rk Gslices_Equal___bluebell_api_Entry_bluebell_api_Entry.g :=
  spec_of_body (fn := Try.f51) (c := bodyOf Try.f51) (by kernel_rfl) (by kernel_rfl) (by kernel_rfl) (by kernel_rfl) (ρ := Gslices_Equal___bluebell_api_Entry_bluebell_api_Entry.ρ) Gslices_Equal___bluebell_api_Entry_bluebell_api_Entry.hρ (Λ := Gslices_Equal___bluebell_api_Entry_bluebell_api_Entry.Λ) (fun A w0 => cuts_cons (Gslices_Equal___bluebell_api_Entry_bluebell_api_Entry.c58 A w0) (cuts_nil)) (fun x => by kernel_rfl)

/-! ### (52, None, None, 48) slices.EqualFunc[[]bluebell/api.Data,[]bluebell/api.Data,bluebell/api.Data,bluebell/api.Data] -/
def Gslices_EqualFunc___bluebell_api_Data___bluebell_api_Data_bluebell_api_Data_bluebell_api_Data_48.l58 : Nat → (List D) → Unit → (List D) → Int → Int → (Unit → Option Bool) → Option Bool
  | 0, _, _, _, _, _, _ => none
  | k + 1, v1, v2, v15, v16, v17, κ1 =>
    bif decide (v17 < v16) then gd (inB v17 v15.length) (gd (inB v17 v1.length) ((Gocode_Same_1.f (rd v15 v17.toNat) (rd v1 v17.toNat)).bind fun r1 => bif (!r1) then some false else Gslices_EqualFunc___bluebell_api_Data___bluebell_api_Data_bluebell_api_Data_bluebell_api_Data_48.l58 k v1 () v15 v16 (IntKind.i64.wrap (v17 + 1)) κ1)) else κ1 ()
def Gslices_EqualFunc___bluebell_api_Data___bluebell_api_Data_bluebell_api_Data_bluebell_api_Data_48.f (a0 : List D) (a1 : List D) (a2 : Unit) : Option Bool :=
  bif ((a0.length : Int) != (a1.length : Int)) then some false else Gslices_EqualFunc___bluebell_api_Data___bluebell_api_Data_bluebell_api_Data_bluebell_api_Data_48.l58 NN a1 () a0 (a0.length : Int) 0 (fun y2 => some true)
def Gslices_EqualFunc___bluebell_api_Data___bluebell_api_Data_bluebell_api_Data_bluebell_api_Data_48.pk : List FK := [.sl 47, .sl 47, .fn 48]
def Gslices_EqualFunc___bluebell_api_Data___bluebell_api_Data_bluebell_api_Data_bluebell_api_Data_48.rk : List FK := [.bool]
def Gslices_EqualFunc___bluebell_api_Data___bluebell_api_Data_bluebell_api_Data_bluebell_api_Data_48.g : Tp Gslices_EqualFunc___bluebell_api_Data___bluebell_api_Data_bluebell_api_Data_bluebell_api_Data_48.pk → Option (Tp Gslices_EqualFunc___bluebell_api_Data___bluebell_api_Data_bluebell_api_Data_bluebell_api_Data_48.rk) := fun x => Gslices_EqualFunc___bluebell_api_Data___bluebell_api_Data_bluebell_api_Data_bluebell_api_Data_48.f x.1 x.2.1 x.2.2
def Gslices_EqualFunc___bluebell_api_Data___bluebell_api_Data_bluebell_api_Data_bluebell_api_Data_48.ρ : List (Entry (Tp Gslices_EqualFunc___bluebell_api_Data___bluebell_api_Data_bluebell_api_Data_bluebell_api_Data_48.rk)) := [entry _ Try.prog 48 Gocode_Same_1.pk Gocode_Same_1.rk Gocode_Same_1.g]
theorem Gslices_EqualFunc___bluebell_api_Data___bluebell_api_Data_bluebell_api_Data_bluebell_api_Data_48.hρ : ∀ e ∈ Gslices_EqualFunc___bluebell_api_Data___bluebell_api_Data_bluebell_api_Data_bluebell_api_Data_48.ρ, EntryOk Try.prog e :=
  ents_cons (ent (fn := Try.f48) Gocode_Same_1.spec (by kernel_rfl) (by kernel_rfl) (by kernel_rfl) (by kernel_rfl)) (ents_nil)
def Gslices_EqualFunc___bluebell_api_Data___bluebell_api_Data_bluebell_api_Data_bluebell_api_Data_48.fr58 : Fr := [(1, .sl 47), (2, .fn 48), (15, .sl 47), (16, .int .i64), (17, .int .i64)]
def Gslices_EqualFunc___bluebell_api_Data___bluebell_api_Data_bluebell_api_Data_bluebell_api_Data_48.ou58 : Outs := [(1, [])]
def Gslices_EqualFunc___bluebell_api_Data___bluebell_api_Data_bluebell_api_Data_bluebell_api_Data_48.T58 (k : Nat) (x : Gslices_EqualFunc___bluebell_api_Data___bluebell_api_Data_bluebell_api_Data_bluebell_api_Data_48.fr58.T) (κ : Kp (Tp Gslices_EqualFunc___bluebell_api_Data___bluebell_api_Data_bluebell_api_Data_bluebell_api_Data_48.rk) Gslices_EqualFunc___bluebell_api_Data___bluebell_api_Data_bluebell_api_Data_bluebell_api_Data_48.ou58) : Option (Tp Gslices_EqualFunc___bluebell_api_Data___bluebell_api_Data_bluebell_api_Data_bluebell_api_Data_48.rk) := Gslices_EqualFunc___bluebell_api_Data___bluebell_api_Data_bluebell_api_Data_bluebell_api_Data_48.l58 k x.1 x.2.1 x.2.2.1 x.2.2.2.1 x.2.2.2.2 κ.1
def Gslices_EqualFunc___bluebell_api_Data___bluebell_api_Data_bluebell_api_Data_bluebell_api_Data_48.Λ0 : Cuts (Tp Gslices_EqualFunc___bluebell_api_Data___bluebell_api_Data_bluebell_api_Data_bluebell_api_Data_48.rk) := cutsOf []
def Gslices_EqualFunc___bluebell_api_Data___bluebell_api_Data_bluebell_api_Data_bluebell_api_Data_48.Λ : Cuts (Tp Gslices_EqualFunc___bluebell_api_Data___bluebell_api_Data_bluebell_api_Data_bluebell_api_Data_48.rk) := cutsOf [(58, cut Try.prog Gslices_EqualFunc___bluebell_api_Data___bluebell_api_Data_bluebell_api_Data_bluebell_api_Data_48.fr58 Gslices_EqualFunc___bluebell_api_Data___bluebell_api_Data_bluebell_api_Data_bluebell_api_Data_48.ou58 (Gslices_EqualFunc___bluebell_api_Data___bluebell_api_Data_bluebell_api_Data_bluebell_api_Data_48.T58 NN))]
theorem Gslices_EqualFunc___bluebell_api_Data___bluebell_api_Data_bluebell_api_Data_bluebell_api_Data_48.c58 (A : Nat → Prop) (w0 : World) : CutOk Try.prog ⟨Try.f52.ntmps, A⟩ w0 (kRet Try.prog Try.f52.results.toList Gslices_EqualFunc___bluebell_api_Data___bluebell_api_Data_bluebell_api_Data_bluebell_api_Data_48.rk) (bodyOf Try.f52) 58 (cut Try.prog Gslices_EqualFunc___bluebell_api_Data___bluebell_api_Data_bluebell_api_Data_bluebell_api_Data_48.fr58 Gslices_EqualFunc___bluebell_api_Data___bluebell_api_Data_bluebell_api_Data_bluebell_api_Data_48.ou58 (Gslices_EqualFunc___bluebell_api_Data___bluebell_api_Data_bluebell_api_Data_bluebell_api_Data_48.T58 NN)) :=
  loop_ok Gslices_EqualFunc___bluebell_api_Data___bluebell_api_Data_bluebell_api_Data_bluebell_api_Data_48.hρ (Λ := Gslices_EqualFunc___bluebell_api_Data___bluebell_api_Data_bluebell_api_Data_bluebell_api_Data_48.Λ0) (cuts_nil) (by kernel_rfl) (D := 64) (b := loopOf Try.f52 58) (by kernel_rfl) (by kernel_rfl) NN (fun x κ => by kernel_rfl) (fun k x κ => by kernel_rfl)
theorem Gslices_EqualFunc___bluebell_api_Data___bluebell_api_Data_bluebell_api_Data_bluebell_api_Data_48.spec : Spec Try.prog 52 Gslices_EqualFunc___bluebell_api_Data___bluebell_api_Data_bluebell_api_Data_bluebell_api_Data_48.pk Gslices_EqualFunc___bluebell_api_Data___bluebell_api_Data_bluebell_api_Data_bluebell_api_Data_48.rk Gslices_EqualFunc___bluebell_api_Data___bluebell_api_Data_bluebell_api_Data_bluebell_api_Data_48.g :=
  spec_of_body (fn := Try.f52) (c := bodyOf Try.f52) (by kernel_rfl) (by kernel_rfl) (by kernel_rfl) (by kernel_rfl) (ρ := Gslices_EqualFunc___bluebell_api_Data___bluebell_api_Data_bluebell_api_Data_bluebell_api_Data_48.ρ) Gslices_EqualFunc___bluebell_api_Data___bluebell_api_Data_bluebell_api_Data_bluebell_api_Data_48.hρ (Λ := Gslices_EqualFunc___bluebell_api_Data___bluebell_api_Data_bluebell_api_Data_bluebell_api_Data_48.Λ) (fun A w0 => cuts_cons (Gslices_EqualFunc___bluebell_api_Data___bluebell_api_Data_bluebell_api_Data_bluebell_api_Data_48.c58 A w0) (cuts_nil)) (fun x => by kernel_rfl)

/-! ### 23 bluebell/ocode.Same -/
def Gocode_Same.f (a0 : D) (a1 : D) : Option Bool :=
  (bif (((((a0.cell 0).str).toList == ((a1.cell 0).str).toList) && (((a0.cell 4).int) == ((a1.cell 4).int))) && (((a0.cell 5).int) == ((a1.cell 5).int))) then Gslices_Equal___bluebell_api_Op_bluebell_api_Op.f ((a0.cell 2).list) ((a1.cell 2).list) else some false).bind fun r1 => (bif ((((((a0.cell 0).str).toList == ((a1.cell 0).str).toList) && (((a0.cell 4).int) == ((a1.cell 4).int))) && (((a0.cell 5).int) == ((a1.cell 5).int))) && r1) then Gslices_Equal___bluebell_api_Entry_bluebell_api_Entry.f ((a0.cell 3).list) ((a1.cell 3).list) else some false).bind fun r2 => (bif (((((((a0.cell 0).str).toList == ((a1.cell 0).str).toList) && (((a0.cell 4).int) == ((a1.cell 4).int))) && (((a0.cell 5).int) == ((a1.cell 5).int))) && r1) && r2) then Gslices_EqualFunc___bluebell_api_Data___bluebell_api_Data_bluebell_api_Data_bluebell_api_Data_48.f ((a0.cell 1).list) ((a1.cell 1).list) () else some false).bind fun r3 => some ((((((((a0.cell 0).str).toList == ((a1.cell 0).str).toList) && (((a0.cell 4).int) == ((a1.cell 4).int))) && (((a0.cell 5).int) == ((a1.cell 5).int))) && r1) && r2) && r3)
def Gocode_Same.pk : List FK := [.st 26, .st 26]
def Gocode_Same.rk : List FK := [.bool]
def Gocode_Same.g : Tp Gocode_Same.pk → Option (Tp Gocode_Same.rk) := fun x => Gocode_Same.f x.1 x.2
def Gocode_Same.ρ : List (Entry (Tp Gocode_Same.rk)) := [entry _ Try.prog 50 Gslices_Equal___bluebell_api_Op_bluebell_api_Op.pk Gslices_Equal___bluebell_api_Op_bluebell_api_Op.rk Gslices_Equal___bluebell_api_Op_bluebell_api_Op.g, entry _ Try.prog 51 Gslices_Equal___bluebell_api_Entry_bluebell_api_Entry.pk Gslices_Equal___bluebell_api_Entry_bluebell_api_Entry.rk Gslices_Equal___bluebell_api_Entry_bluebell_api_Entry.g, entry _ Try.prog 52 Gslices_EqualFunc___bluebell_api_Data___bluebell_api_Data_bluebell_api_Data_bluebell_api_Data_48.pk Gslices_EqualFunc___bluebell_api_Data___bluebell_api_Data_bluebell_api_Data_bluebell_api_Data_48.rk Gslices_EqualFunc___bluebell_api_Data___bluebell_api_Data_bluebell_api_Data_bluebell_api_Data_48.g]
theorem Gocode_Same.hρ : ∀ e ∈ Gocode_Same.ρ, EntryOk Try.prog e :=
  ents_cons (ent (fn := Try.f50) Gslices_Equal___bluebell_api_Op_bluebell_api_Op.spec (by kernel_rfl) (by kernel_rfl) (by kernel_rfl) (by kernel_rfl)) (ents_cons (ent (fn := Try.f51) Gslices_Equal___bluebell_api_Entry_bluebell_api_Entry.spec (by kernel_rfl) (by kernel_rfl) (by kernel_rfl) (by kernel_rfl)) (ents_cons (ent (fn := Try.f52) Gslices_EqualFunc___bluebell_api_Data___bluebell_api_Data_bluebell_api_Data_bluebell_api_Data_48.spec (by kernel_rfl) (by kernel_rfl) (by kernel_rfl) (by kernel_rfl)) (ents_nil)))
def Gocode_Same.Λ : Cuts (Tp Gocode_Same.rk) := cutsOf []
theorem Gocode_Same.spec : Spec Try.prog 23 Gocode_Same.pk Gocode_Same.rk Gocode_Same.g :=
  spec_of_body (fn := Try.f23) (c := bodyOf Try.f23) (by kernel_rfl) (by kernel_rfl) (by kernel_rfl) (by kernel_rfl) (ρ := Gocode_Same.ρ) Gocode_Same.hρ (Λ := Gocode_Same.Λ) (fun A w0 => cuts_nil) (fun x => by kernel_rfl)

/-! ### 11 bluebell/bluebelllaw06.OcodeAgain -/
def Gw06_OcodeAgain.f (a0 : D) : Option Bool :=
  (Gw06_heavy.f a0).bind fun r1 => bif r1 then (Gw06_awake.f).bind fun r2 => some r2 else (Gocode_Renumber.f a0).bind fun r3 => bif (r3.2 != 0) then (Gw06_awake.f).bind fun r4 => some r4 else (Gocode_Renumber.f (.r [.s r3.1.1, .l r3.1.2.1, .l r3.1.2.2.1, .l r3.1.2.2.2.1, .i r3.1.2.2.2.2.1, .i r3.1.2.2.2.2.2.1])).bind fun r5 => (Gocode_Depths.f a0).bind fun r6 => (Gocode_Depths.f (.r [.s r3.1.1, .l r3.1.2.1, .l r3.1.2.2.1, .l r3.1.2.2.2.1, .i r3.1.2.2.2.2.1, .i r3.1.2.2.2.2.2.1])).bind fun r7 => (Gocode_Room.f a0).bind fun r8 => (Gocode_Room.f (.r [.s r3.1.1, .l r3.1.2.1, .l r3.1.2.2.1, .l r3.1.2.2.2.1, .i r3.1.2.2.2.2.1, .i r3.1.2.2.2.2.2.1])).bind fun r9 => (bif (r5.2 == 0) then Gocode_Same.f (.r [.s r3.1.1, .l r3.1.2.1, .l r3.1.2.2.1, .l r3.1.2.2.2.1, .i r3.1.2.2.2.2.1, .i r3.1.2.2.2.2.2.1]) (.r [.s r5.1.1, .l r5.1.2.1, .l r5.1.2.2.1, .l r5.1.2.2.2.1, .i r5.1.2.2.2.2.1, .i r5.1.2.2.2.2.2.1]) else some false).bind fun r10 => (bif ((((r5.2 == 0) && r10) && (r6.2 == 0)) && (r7.2 == 0)) then Gr00_EqInts.f r6.1 r7.1 else some false).bind fun r11 => (bif (((((((r5.2 == 0) && r10) && (r6.2 == 0)) && (r7.2 == 0)) && r11) && (r8.2 == 0)) && (r9.2 == 0)) then Gr00_EqInts.f r8.1 r9.1 else some false).bind fun r12 => (bif (((((((((r5.2 == 0) && r10) && (r6.2 == 0)) && (r7.2 == 0)) && r11) && (r8.2 == 0)) && (r9.2 == 0)) && r12) && ((r3.1.2.2.1.length : Int) == (((a0.cell 2).list).length : Int))) then Gw06_awake.f else some false).bind fun r13 => some ((((((((((r5.2 == 0) && r10) && (r6.2 == 0)) && (r7.2 == 0)) && r11) && (r8.2 == 0)) && (r9.2 == 0)) && r12) && ((r3.1.2.2.1.length : Int) == (((a0.cell 2).list).length : Int))) && r13)
def Gw06_OcodeAgain.pk : List FK := [.st 26]
def Gw06_OcodeAgain.rk : List FK := [.bool]
def Gw06_OcodeAgain.g : Tp Gw06_OcodeAgain.pk → Option (Tp Gw06_OcodeAgain.rk) := fun x => Gw06_OcodeAgain.f x
def Gw06_OcodeAgain.ρ : List (Entry (Tp Gw06_OcodeAgain.rk)) := [entry _ Try.prog 12 Gw06_heavy.pk Gw06_heavy.rk Gw06_heavy.g, entry _ Try.prog 13 Gw06_awake.pk Gw06_awake.rk Gw06_awake.g, entry _ Try.prog 28 Gocode_Renumber.pk Gocode_Renumber.rk Gocode_Renumber.g, entry _ Try.prog 16 Gocode_Depths.pk Gocode_Depths.rk Gocode_Depths.g, entry _ Try.prog 18 Gocode_Room.pk Gocode_Room.rk Gocode_Room.g, entry _ Try.prog 23 Gocode_Same.pk Gocode_Same.rk Gocode_Same.g, entry _ Try.prog 19 Gr00_EqInts.pk Gr00_EqInts.rk Gr00_EqInts.g]
theorem Gw06_OcodeAgain.hρ : ∀ e ∈ Gw06_OcodeAgain.ρ, EntryOk Try.prog e :=
  ents_cons (ent (fn := Try.f12) Gw06_heavy.spec (by kernel_rfl) (by kernel_rfl) (by kernel_rfl) (by kernel_rfl)) (ents_cons (ent (fn := Try.f13) Gw06_awake.spec (by kernel_rfl) (by kernel_rfl) (by kernel_rfl) (by kernel_rfl)) (ents_cons (ent (fn := Try.f28) Gocode_Renumber.spec (by kernel_rfl) (by kernel_rfl) (by kernel_rfl) (by kernel_rfl)) (ents_cons (ent (fn := Try.f16) Gocode_Depths.spec (by kernel_rfl) (by kernel_rfl) (by kernel_rfl) (by kernel_rfl)) (ents_cons (ent (fn := Try.f18) Gocode_Room.spec (by kernel_rfl) (by kernel_rfl) (by kernel_rfl) (by kernel_rfl)) (ents_cons (ent (fn := Try.f23) Gocode_Same.spec (by kernel_rfl) (by kernel_rfl) (by kernel_rfl) (by kernel_rfl)) (ents_cons (ent (fn := Try.f19) Gr00_EqInts.spec (by kernel_rfl) (by kernel_rfl) (by kernel_rfl) (by kernel_rfl)) (ents_nil)))))))
def Gw06_OcodeAgain.Λ : Cuts (Tp Gw06_OcodeAgain.rk) := cutsOf []
theorem Gw06_OcodeAgain.spec : Spec Try.prog 11 Gw06_OcodeAgain.pk Gw06_OcodeAgain.rk Gw06_OcodeAgain.g :=
  spec_of_body (fn := Try.f11) (c := bodyOf Try.f11) (by kernel_rfl) (by kernel_rfl) (by kernel_rfl) (by kernel_rfl) (ρ := Gw06_OcodeAgain.ρ) Gw06_OcodeAgain.hρ (Λ := Gw06_OcodeAgain.Λ) (fun A w0 => cuts_nil) (fun x => by kernel_rfl)
end
end Go.Pv
