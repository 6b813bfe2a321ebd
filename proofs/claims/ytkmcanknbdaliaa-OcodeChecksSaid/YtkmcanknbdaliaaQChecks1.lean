/- Lemmas for the law, put together: contracts of the program's functions and what they answer, in plain words (part 1). -/
import Derived.Test.YtkmcanknbdaliaaProg
import Derived.Below
import Derived.Deep.Draws
import Derived.Deep.AppendLies
import Derived.Maps.AppendAt
import Derived.OwnWalk
import Derived.Laws.BytesArg
import Derived.Laws.MakeOwn
import Derived.Laws.OwnMore
import Derived.Deep.OwnRows
import Derived.Tactics
import Derived.Lib.ConvBytes
import Derived.Laws.Slices
import Derived.WalkKit
import Derived.KernelRfl
import Derived.RowKit3
import Derived.Deep.LoopGhost
import Derived.Deep.QuietTactic
import Derived.BigQuiet
import Derived.WideLaws
import Derived.Deep.DeepCutAuto
import Derived.Deep.CutBlock
import Derived.Deep.RegionHeld3
import Derived.Laws.Rows
import Derived.Lib.AppendStr
import Derived.ArgAppend
import Derived.Laws.IdiomCopy
import Derived.OrdersHeld
import Derived.Laws.BitsLemmas
import Derived.RowKit
import Derived.Test.YtkmcanknbdaliaaQChecksW
import Derived.Test.YtkmcanknbdaliaaQChecksShort
namespace Go.Proofs.Ytkmcanknbdaliaa.PO
open Go.RowKit Go.Proofs.YtkmcanknbdaliaaW.PrintWords Go.Proofs.YtkmcanknbdaliaaW.PrintLast Go.Proofs.YtkmcanknbdaliaaW.PrintMore
attribute [local go_sem] max2_int min2_int max_two min_two max_three min_three max_four min_four   -- for this text's walks alone
set_option linter.unusedVariables false
set_option linter.unusedSimpArgs false



def errW : Option Int → Value
 | none => .nilIface
 | some c => .iface 0 (.int .i64 c)
theorem errW_none : errW none = .nilIface := rfl
theorem errW_some (c : Int) : errW (some c) = .iface 0 (.int .i64 c) := rfl

theorem info3 : (Try.prog.info? 3).map (fun i => (i.zero, i.size, i.bytes)) = some (some (.int .i64 0), 1, 8) := by kernel_rfl
theorem info35 : (Try.prog.info? 35).map (fun i => (i.zero, i.size, i.bytes)) = some (some (.agg #[(.int .i64 0), (.int .i64 0), (.int .i64 0)]), 3, 24) := by kernel_rfl
theorem info47 : (Try.prog.info? 47).map (fun i => (i.zero, i.size, i.bytes)) = some (some (.agg #[(.string ⟨#[]⟩), (.bool false), (.slice none 0 0)]), 3, 48) := by kernel_rfl
theorem info68 : (Try.prog.info? 68).map (fun i => (i.zero, i.size, i.bytes)) = some (some (.agg #[(.int .i64 0), (.int .i64 0)]), 2, 16) := by kernel_rfl
-- the values' own types
def rd_L3 (xs : List (List Int)) (i : Int) : (List Int) := xs.getD i.toNat ([] : List Int)
theorem at_L3 {w : World} {A : Option Addr} {n : Nat} {xs : List (List Int)} (h : Kd.C (Kd.slice 3 (Kd.int .i64)) w A n xs) (i : Int) (h0 : 0 ≤ i) (h1 : i < n) : ∃ ad A0 c0, A = some ad ∧ w.cell? (ad.add i.toNat) = some (.slice A0 (rd_L3 xs i).length c0) ∧ (rd_L3 xs i).length ≤ c0 ∧ (Kd.int .i64).C w A0 (rd_L3 xs i).length (rd_L3 xs i) := by
 obtain ⟨ad, c, e, _, hK, hc0⟩ := Kd.C_get h ([] : List Int) i h0 h1
 have hc : ∀ j u, c[j]? = some u → w.cell? (ad.add (i.toNat * 1 + j)) = some u := hc0
 obtain ⟨A0, c0, rfl, l0, g0⟩ := hK
 exact ⟨ad, A0, c0, e, by have hq := hc 0 _ rfl; rwa [Nat.mul_one, Nat.add_zero] at hq, l0, g0⟩

/-! #### struct type 47 -/
structure S47 where
 f0 : ByteArray
 f1 : Bool
 f2 : (List Int)
def z47 : S47 := ⟨(⟨#[]⟩ : ByteArray), false, ([] : List Int)⟩
def k47 : Kd S47 := Kd.iso (Kd.pair Kd.string (Kd.pair Kd.bool (Kd.slice 3 (Kd.int .i64)))) (fun x : S47 => (x.f0, x.f1, x.f2))
theorem k47_open {w : World} {x : S47} {cs : List Value} (h : k47.K w x cs) : ∃ A2 c2, cs = [.string x.f0, .bool x.f1, .slice A2 x.f2.length c2] ∧ x.f2.length ≤ c2 ∧ (Kd.int .i64).C w A2 x.f2.length x.f2 := by
 obtain ⟨_, _, rfl, rfl, ⟨_, _, rfl, rfl, ⟨A2, c2, rfl, l2, g2⟩⟩⟩ := h
 exact ⟨A2, c2, rfl, l2, g2⟩
theorem k47_openM {w : World} {base : Nat} {ok : Nat → Prop} {x : S47} {cs : List Value} (h : k47.M w base ok x cs) : ∃ v2, cs = [.string x.f0, .bool x.f1, v2] ∧ (Kd.int .i64).R 3 w base ok v2 x.f2 := by
 obtain ⟨_, _, rfl, rfl, ⟨_, _, rfl, rfl, ⟨v2, rfl, g2⟩⟩⟩ := h
 exact ⟨v2, rfl, g2⟩
theorem k47_mk (w : World) (x : S47) {A2 : Option Addr} {c2 : Nat} (l2 : x.f2.length ≤ c2) (g2 : (Kd.int .i64).C w A2 x.f2.length x.f2) : k47.K w x [.string x.f0, .bool x.f1, .slice A2 x.f2.length c2] := ⟨[.string x.f0], [.bool x.f1, .slice A2 x.f2.length c2], rfl, rfl, ⟨[.bool x.f1], [.slice A2 x.f2.length c2], rfl, rfl, ⟨A2, c2, rfl, l2, g2⟩⟩⟩
theorem k47_mkM (w : World) (base : Nat) (ok : Nat → Prop) (x : S47) {v2 : Value} (g2 : (Kd.int .i64).R 3 w base ok v2 x.f2) : k47.M w base ok x [.string x.f0, .bool x.f1, v2] := ⟨[.string x.f0], [.bool x.f1, v2], rfl, rfl, ⟨[.bool x.f1], [v2], rfl, rfl, ⟨v2, rfl, g2⟩⟩⟩
def rd_T47 (xs : List S47) (i : Int) : S47 := xs.getD i.toNat z47
theorem at_T47 {w : World} {A : Option Addr} {n : Nat} {xs : List S47} (h : Kd.C k47 w A n xs) (i : Int) (h0 : 0 ≤ i) (h1 : i < n) : ∃ ad A2 c2, A = some ad ∧ w.cell? (ad.add (i.toNat * 3)) = some (.string (rd_T47 xs i).f0) ∧ w.cell? ⟨(ad.add (i.toNat * 3)).block, (ad.add (i.toNat * 3)).off + 1, none⟩ = some (.bool (rd_T47 xs i).f1) ∧ w.cell? ⟨(ad.add (i.toNat * 3)).block, (ad.add (i.toNat * 3)).off + 2, none⟩ = some (.slice A2 (rd_T47 xs i).f2.length c2) ∧ (rd_T47 xs i).f2.length ≤ c2 ∧ (Kd.int .i64).C w A2 (rd_T47 xs i).f2.length (rd_T47 xs i).f2 := by
 obtain ⟨ad, c, e, _, hK, hc0⟩ := Kd.C_get h z47 i h0 h1
 have hc : ∀ j u, c[j]? = some u → w.cell? (ad.add (i.toNat * 3 + j)) = some u := hc0
 obtain ⟨A2, c2, rfl, l2, g2⟩ := k47_open hK
 exact ⟨ad, A2, c2, e, hc 0 _ rfl, by rw [← add_field _ _ 1 (by omega)]; exact hc 1 _ rfl, by rw [← add_field _ _ 2 (by omega)]; exact hc 2 _ rfl, l2, g2⟩

/-! #### struct type 35 -/
structure S35 where
 f0 : Int
 f1 : Int
 f2 : Int
def z35 : S35 := ⟨(0 : Int), (0 : Int), (0 : Int)⟩
def k35 : Kd S35 := Kd.iso (Kd.pair (Kd.int .i64) (Kd.pair (Kd.int .i64) (Kd.int .i64))) (fun x : S35 => (x.f0, x.f1, x.f2))
theorem k35_open {w : World} {x : S35} {cs : List Value} (h : k35.K w x cs) : cs = [.int .i64 x.f0, .int .i64 x.f1, .int .i64 x.f2] := by
 obtain ⟨_, _, rfl, rfl, ⟨_, _, rfl, rfl, rfl⟩⟩ := h
 exact rfl
theorem k35_openM {w : World} {base : Nat} {ok : Nat → Prop} {x : S35} {cs : List Value} (h : k35.M w base ok x cs) : cs = [.int .i64 x.f0, .int .i64 x.f1, .int .i64 x.f2] := by
 obtain ⟨_, _, rfl, rfl, ⟨_, _, rfl, rfl, rfl⟩⟩ := h
 exact rfl
theorem k35_mk (w : World) (x : S35)  : k35.K w x [.int .i64 x.f0, .int .i64 x.f1, .int .i64 x.f2] := ⟨[.int .i64 x.f0], [.int .i64 x.f1, .int .i64 x.f2], rfl, rfl, ⟨[.int .i64 x.f1], [.int .i64 x.f2], rfl, rfl, rfl⟩⟩
theorem k35_mkM (w : World) (base : Nat) (ok : Nat → Prop) (x : S35)  : k35.M w base ok x [.int .i64 x.f0, .int .i64 x.f1, .int .i64 x.f2] := ⟨[.int .i64 x.f0], [.int .i64 x.f1, .int .i64 x.f2], rfl, rfl, ⟨[.int .i64 x.f1], [.int .i64 x.f2], rfl, rfl, rfl⟩⟩
def rd_T35 (xs : List S35) (i : Int) : S35 := xs.getD i.toNat z35
theorem at_T35 {w : World} {A : Option Addr} {n : Nat} {xs : List S35} (h : Kd.C k35 w A n xs) (i : Int) (h0 : 0 ≤ i) (h1 : i < n) : ∃ ad , A = some ad ∧ w.cell? (ad.add (i.toNat * 3)) = some (.int .i64 (rd_T35 xs i).f0) ∧ w.cell? ⟨(ad.add (i.toNat * 3)).block, (ad.add (i.toNat * 3)).off + 1, none⟩ = some (.int .i64 (rd_T35 xs i).f1) ∧ w.cell? ⟨(ad.add (i.toNat * 3)).block, (ad.add (i.toNat * 3)).off + 2, none⟩ = some (.int .i64 (rd_T35 xs i).f2) := by
 obtain ⟨ad, c, e, _, hK, hc0⟩ := Kd.C_get h z35 i h0 h1
 have hc : ∀ j u, c[j]? = some u → w.cell? (ad.add (i.toNat * 3 + j)) = some u := hc0
 obtain rfl := k35_open hK
 exact ⟨ad, e, hc 0 _ rfl, by rw [← add_field _ _ 1 (by omega)]; exact hc 1 _ rfl, by rw [← add_field _ _ 2 (by omega)]; exact hc 2 _ rfl⟩

/-! #### struct type 68 -/
structure S68 where
 f0 : Int
 f1 : Int
def z68 : S68 := ⟨(0 : Int), (0 : Int)⟩
def k68 : Kd S68 := Kd.iso (Kd.pair (Kd.int .i64) (Kd.int .i64)) (fun x : S68 => (x.f0, x.f1))
theorem k68_open {w : World} {x : S68} {cs : List Value} (h : k68.K w x cs) : cs = [.int .i64 x.f0, .int .i64 x.f1] := by
 obtain ⟨_, _, rfl, rfl, rfl⟩ := h
 exact rfl
theorem k68_openM {w : World} {base : Nat} {ok : Nat → Prop} {x : S68} {cs : List Value} (h : k68.M w base ok x cs) : cs = [.int .i64 x.f0, .int .i64 x.f1] := by
 obtain ⟨_, _, rfl, rfl, rfl⟩ := h
 exact rfl
theorem k68_mk (w : World) (x : S68)  : k68.K w x [.int .i64 x.f0, .int .i64 x.f1] := ⟨[.int .i64 x.f0], [.int .i64 x.f1], rfl, rfl, rfl⟩
theorem k68_mkM (w : World) (base : Nat) (ok : Nat → Prop) (x : S68)  : k68.M w base ok x [.int .i64 x.f0, .int .i64 x.f1] := ⟨[.int .i64 x.f0], [.int .i64 x.f1], rfl, rfl, rfl⟩
def rd_T68 (xs : List S68) (i : Int) : S68 := xs.getD i.toNat z68
theorem at_T68 {w : World} {A : Option Addr} {n : Nat} {xs : List S68} (h : Kd.C k68 w A n xs) (i : Int) (h0 : 0 ≤ i) (h1 : i < n) : ∃ ad , A = some ad ∧ w.cell? (ad.add (i.toNat * 2)) = some (.int .i64 (rd_T68 xs i).f0) ∧ w.cell? ⟨(ad.add (i.toNat * 2)).block, (ad.add (i.toNat * 2)).off + 1, none⟩ = some (.int .i64 (rd_T68 xs i).f1) := by
 obtain ⟨ad, c, e, _, hK, hc0⟩ := Kd.C_get h z68 i h0 h1
 have hc : ∀ j u, c[j]? = some u → w.cell? (ad.add (i.toNat * 2 + j)) = some u := hc0
 obtain rfl := k68_open hK
 exact ⟨ad, e, hc 0 _ rfl, by rw [← add_field _ _ 1 (by omega)]; exact hc 1 _ rfl⟩



/-! ### ocode_in: function 88 -/
def ocode_in.f (a0 : Int) (a1 : Int) (a2 : Int) : Option (Bool) := if a0 ≥ a1 then (some (decide (a0 ≤ a2))) else (some false)
set_option maxHeartbeats 8000000 in
set_option maxRecDepth 100000 in
theorem ocode_in.calls (a0 : Int) (a1 : Int) (a2 : Int) (r : Bool) (w : World) (h : ocode_in.f a0 a1 a2 = some r) :
    Calls Try.prog 88 #[.int .i64 a0, .int .i64 a1, .int .i64 a2] w fun e w' => e = .returned (.bool r) ∧ Drawn0 w w' := by
  have H : (if a0 ≥ a1 then (some (decide (a0 ≤ a2))) else (some false)) = some r := h
  clear h
  by_cases c4 : a0 ≥ a1
  · rw [if_pos c4] at H
    have c4b0 : decide (a1 ≤ a0) = true := decide_eq_true c4
    clear c4
    obtain rfl := Option.some.inj H
    go_enter Try.func88, Try.ntmps88
    go_wp2
    go_ret
    exact ⟨by first | rfl | (simp; done) | (simp [*]; done), by repeat (first | exact Drawn0.refl _ | apply Drawn0.step)⟩
  · rw [if_neg c4] at H
    have c4b0 : decide (a1 ≤ a0) = false := decide_eq_false c4
    clear c4
    obtain rfl := Option.some.inj H
    go_enter Try.func88, Try.ntmps88
    go_wp2
    go_ret
    exact ⟨by first | rfl | (simp; done) | (simp [*]; done), by repeat (first | exact Drawn0.refl _ | apply Drawn0.step)⟩



/-! ### ocode_wide: function 87 -/
def ocode_wide.f (a0 : Int) : Option (Bool) := (ocode_in.f a0 (-2147483648) 2147483647).bind fun t110 => (some t110)
set_option maxHeartbeats 8000000 in
set_option maxRecDepth 100000 in
theorem ocode_wide.calls (a0 : Int) (r : Bool) (w : World) (h : ocode_wide.f a0 = some r) :
    Calls Try.prog 87 #[.int .i64 a0] w fun e w' => e = .returned (.bool r) ∧ Drawn0 w w' := by
  have H : ((ocode_in.f a0 (-2147483648) 2147483647).bind fun t110 => (some t110)) = some r := h
  clear h
  replace H := Option.bind_eq_some_iff.mp H
  obtain ⟨t110, A20, H⟩ := H
  replace H : (some t110) = some r := H
  have A2 := Aside0.mk A20
  clear A20
  obtain rfl := Option.some.inj H
  go_enter Try.func87, Try.ntmps87
  go_wp2_with (first | ((with_reducible refine gate_callee (f := 88) rfl ?_); refine goesL_ (some 4) rfl rfl Try.func88 (by kernel_rfl) rfl #[.int .i64 a0, .int .i64 (-2147483648), .int .i64 2147483647] rfl (by (try simp only [List.map_toArray, List.map_cons, List.map_nil]); first | done | rfl | (simp only [List.length_drop, List.length_take]; rfl)) ?_; (with_reducible refine (ocode_in.calls a0 (-2147483648) 2147483647 t110 _ A2.out).mono ?_); rintro e w' ⟨rfl, ⟨nd, rfl⟩⟩; refine ⟨_, rfl, ?_⟩))
  go_ret
  exact ⟨by first | rfl | (simp; done) | (simp [*]; done), by repeat (first | exact Drawn0.refl _ | apply Drawn0.step)⟩



/-! ### ocode_large: function 39 -/
mutual
def ocode_large.j0 : Nat → Bool → ByteArray → List (S47) → List (S35) → List (S68) → Int → Int → Option (Bool)
 | 0, _, _, _, _, _, _, _ => none
 | k + 1, x25, p0, p1, p2, p3, p4, p5 => if x25 = true then (some true) else (ocode_large.l0 k 0 p1 (p1.length : Int) 0)
def ocode_large.l0 : Nat → Int → List (S47) → Int → Int → Option (Bool)
 | 0, _, _, _, _ => none
 | k + 1, x3, x27, x28, x29 => if x29 < x28 then (if 0 ≤ x29 then (if x29 < (x27.length : Int) then (if (rd_T47 x27 x29).f1 = true then (ocode_large.l0 k (wrap64 ((wrap64 (x3 + (((rd_T47 x27 x29).f2).length : Int))) + (wrap64 (Int.tdiv (wrap64 ((((rd_T47 x27 x29).f0).size : Int) + 2)) 2)))) x27 x28 (wrap64 (x29 + 1))) else (ocode_large.l0 k (wrap64 (x3 + (((rd_T47 x27 x29).f2).length : Int))) x27 x28 (wrap64 (x29 + 1)))) else (none)) else (none)) else (some (decide (x3 > 7800)))
end
def ocode_large.f (k : Nat) (a0_0 : ByteArray) (l0_1 : List (S47)) (l0_2 : List (S35)) (l0_3 : List (S68)) (a0_4 : Int) (a0_5 : Int) : Option (Bool) := if (l0_2.length : Int) > 40000 then (ocode_large.j0 k true a0_0 l0_1 l0_2 l0_3 a0_4 a0_5) else (if (l0_1.length : Int) > 2000 then (ocode_large.j0 k true a0_0 l0_1 l0_2 l0_3 a0_4 a0_5) else (if a0_4 > 200 then (ocode_large.j0 k true a0_0 l0_1 l0_2 l0_3 a0_4 a0_5) else (ocode_large.j0 k (decide (a0_5 > 20000)) a0_0 l0_1 l0_2 l0_3 a0_4 a0_5)))
theorem ocode_large.mono_l : ∀ k, (∀ y0 y1 y2 y3 y4 y5 y6, LeO (ocode_large.j0 k y0 y1 y2 y3 y4 y5 y6) (ocode_large.j0 (k + 1) y0 y1 y2 y3 y4 y5 y6)) ∧ (∀ y0 y1 y2 y3, LeO (ocode_large.l0 k y0 y1 y2 y3) (ocode_large.l0 (k + 1) y0 y1 y2 y3))
 | 0 => ⟨fun _ _ _ _ _ _ _ r h => by simp [ocode_large.j0] at h, fun _ _ _ _ r h => by simp [ocode_large.l0] at h⟩
 | k + 1 => by
  obtain ⟨ih0, ih1⟩ := ocode_large.mono_l k
  refine ⟨?_, ?_⟩
  ·intro y0 y1 y2 y3 y4 y5 y6
   unfold ocode_large.j0
   repeat' first
   | (with_reducible exact ih0 _ _ _ _ _ _ _)
   | (with_reducible exact ih1 _ _ _ _)
   | (with_reducible exact LeO.refl _)
   | (with_reducible exact LeO.none _)
   | (with_reducible refine LeO.ite ?_ ?_)
   | (with_reducible refine LeO.bind ?_ (fun _ => ?_))
   | exact ih0 _ _ _ _ _ _ _
   | exact ih1 _ _ _ _
   | exact LeO.none _
   | refine LeO.ite ?_ ?_
   | refine LeO.bind ?_ (fun _ => ?_)
  ·intro y0 y1 y2 y3
   unfold ocode_large.l0
   repeat' first
   | (with_reducible exact ih0 _ _ _ _ _ _ _)
   | (with_reducible exact ih1 _ _ _ _)
   | (with_reducible exact LeO.refl _)
   | (with_reducible exact LeO.none _)
   | (with_reducible refine LeO.ite ?_ ?_)
   | (with_reducible refine LeO.bind ?_ (fun _ => ?_))
   | exact ih0 _ _ _ _ _ _ _
   | exact ih1 _ _ _ _
   | exact LeO.none _
   | refine LeO.ite ?_ ?_
   | refine LeO.bind ?_ (fun _ => ?_)
theorem ocode_large.mono : ∀ a0 a1 a2 a3 a4 a5 k, LeO (ocode_large.f k a0 a1 a2 a3 a4 a5) (ocode_large.f (k + 1) a0 a1 a2 a3 a4 a5) := by
 intro a0 a1 a2 a3 a4 a5 k
 obtain ⟨ih0, ih1⟩ := ocode_large.mono_l k
 unfold ocode_large.f
 repeat' first
   | (with_reducible exact ih0 _ _ _ _ _ _ _)
   | (with_reducible exact ih1 _ _ _ _)
   | (with_reducible exact LeO.refl _)
   | (with_reducible exact LeO.none _)
   | (with_reducible refine LeO.ite ?_ ?_)
   | (with_reducible refine LeO.bind ?_ (fun _ => ?_))
   | exact ih0 _ _ _ _ _ _ _
   | exact ih1 _ _ _ _
   | exact LeO.none _
   | refine LeO.ite ?_ ?_
   | refine LeO.bind ?_ (fun _ => ?_)
set_option maxHeartbeats 8000000 in
set_option maxRecDepth 100000 in
theorem ocode_large.calls (k : Nat) (a0_0 : ByteArray) (A0_1 : Option Addr) (c0_1 : Nat) (l0_1 : List (S47)) (A0_2 : Option Addr) (c0_2 : Nat) (l0_2 : List (S35)) (A0_3 : Option Addr) (c0_3 : Nat) (l0_3 : List (S68)) (a0_4 : Int) (a0_5 : Int) (r : Bool) (w : World) (hr0_1 : Kd.C k47 w A0_1 l0_1.length l0_1) (hc0_1 : l0_1.length ≤ c0_1) (hr0_2 : Kd.C k35 w A0_2 l0_2.length l0_2) (hc0_2 : l0_2.length ≤ c0_2) (hr0_3 : Kd.C k68 w A0_3 l0_3.length l0_3) (hc0_3 : l0_3.length ≤ c0_3) (h : ocode_large.f k a0_0 l0_1 l0_2 l0_3 a0_4 a0_5 = some r) :
  Calls Try.prog 39 #[.agg #[.string a0_0, .slice A0_1 l0_1.length c0_1, .slice A0_2 l0_2.length c0_2, .slice A0_3 l0_3.length c0_3, .int .i64 a0_4, .int .i64 a0_5]] w fun e w' => e = .returned (.bool r) ∧ Below w.heap.size w w' := by
 have hu26 := Try.underlying26
 have hu47 := Try.underlying47
 have HR0_1 := Aside0.mk hr0_1
 have HC0_1 := Aside0.mk hc0_1
 clear hr0_1 hc0_1
 have HR0_2 := Aside0.mk hr0_2
 have HC0_2 := Aside0.mk hc0_2
 clear hr0_2 hc0_2
 have HR0_3 := Aside0.mk hr0_3
 have HC0_3 := Aside0.mk hc0_3
 clear hr0_3 hc0_3
 have HB := Aside0.mk (Below.refl w.heap.size w)
 have H : (if (l0_2.length : Int) > 40000 then (ocode_large.j0 k true a0_0 l0_1 l0_2 l0_3 a0_4 a0_5) else (if (l0_1.length : Int) > 2000 then (ocode_large.j0 k true a0_0 l0_1 l0_2 l0_3 a0_4 a0_5) else (if a0_4 > 200 then (ocode_large.j0 k true a0_0 l0_1 l0_2 l0_3 a0_4 a0_5) else (ocode_large.j0 k (decide (a0_5 > 20000)) a0_0 l0_1 l0_2 l0_3 a0_4 a0_5)))) = some r := h
 clear h
 have HC2 := Aside0.mk H
 clear H
 go_enter Try.func39, Try.ntmps39
 go_upto_region 1 with (first | ((with_reducible refine gate_dst (N := 1) rfl ?_); (try (refine gate_guard (by rfl) ?_; dsimp only)); refine boxev (N := 1) (cs := #[.string a0_0, .slice A0_1 l0_1.length c0_1, .slice A0_2 l0_2.length c0_2, .slice A0_3 l0_3.length c0_3, .int .i64 a0_4, .int .i64 a0_5]) (t := 26) ?_; intro gb106 hg w3 hbox hb; have BK106 := Aside0.mk (hbox); have GW106 := Aside0.mk ((by rw [hg]; exact bsz : w.heap.size ≤ gb106)); have GE106 := Aside0.mk ((by rw [hg]; exact bsz : w.heap.size ≤ gb106)); replace HB := Aside0.mk (bstep hb); clear hb hbox hg))
 (try simp only [Act.put, List.setIfInBounds_toArray, List.set_cons_zero, List.set_cons_succ])
 go_cut [25] (fun v25 wc => ∃ (kq : Nat) (x25_1 : Bool), v25 = .bool x25_1 ∧ Aside0 (ocode_large.j0 kq x25_1 a0_0 l0_1 l0_2 l0_3 a0_4 a0_5 = some r) ∧ Aside0 (kq ≤ k) ∧ Aside0 (wc.heap[gb106]? = some (.cells #[.string a0_0, (.slice A0_1 l0_1.length c0_1), (.slice A0_2 l0_2.length c0_2), (.slice A0_3 l0_3.length c0_3), .int .i64 a0_4, .int .i64 a0_5] 26 (0, 0))) ∧ Aside0 (Below w.heap.size w wc))
 case first =>
  have H := HC2.out
  clear HC2
  by_cases c4 : (l0_2.length : Int) > 40000
  ·rw [if_pos c4] at H
   have c4b0 : decide (40000 < (l0_2.length : Int)) = true := decide_eq_true c4
   have c4b1 : decide (40000 < l0_2.length) = true := decide_eq_true (by omega)
   clear c4
   (first | rw [c4b0] | (simp only [i64_w, i32_w]; rw [c4b0]) | skip)
   have H' := Aside0.mk H
   clear H
   obtain ⟨z5_0, z5_1, z5_2, z5_3, z5_4, z5_5, y5_0, y5_1, y5_2, y5_3, y5_4, y5_5⟩ := cells6 BK106.out
   go_wp2
   (first | go_meet | (refine Met.intro ?_; go_step; (repeat apply Exists.intro); refine ⟨?rel, ?fr_⟩; (case fr_ => first | (simp only [c4b1, c4b0]; done) | (simp only [c4b1, c4b0]; rfl) | (simp only [c4b1, c4b0]; rfl))))
   case rel => exact ⟨_, (true), wrE, H', ⟨by first | omega | exact Nat.le_refl _⟩, ⟨bk⟩, ⟨bw⟩⟩
  ·rw [if_neg c4] at H
   have c4b0 : decide (40000 < (l0_2.length : Int)) = false := decide_eq_false c4
   have c4b1 : decide (40000 < l0_2.length) = false := decide_eq_false (by omega)
   clear c4
   (first | rw [c4b0] | (simp only [i64_w, i32_w]; rw [c4b0]) | skip)
   by_cases c6 : (l0_1.length : Int) > 2000
   ·rw [if_pos c6] at H
    have c6b0 : decide (2000 < (l0_1.length : Int)) = true := decide_eq_true c6
    have c6b1 : decide (2000 < l0_1.length) = true := decide_eq_true (by omega)
    clear c6
    have H' := Aside0.mk H
    clear H
    obtain ⟨z7_0, z7_1, z7_2, z7_3, z7_4, z7_5, y7_0, y7_1, y7_2, y7_3, y7_4, y7_5⟩ := cells6 BK106.out
    go_wp2
    (first | go_meet | (refine Met.intro ?_; go_step; (repeat apply Exists.intro); refine ⟨?rel, ?fr_⟩; (case fr_ => first | (simp only [c6b1, c6b0, c4b1, c4b0]; done) | (simp only [c6b1, c6b0, c4b1, c4b0]; rfl) | (simp only [c6b1, c6b0, c4b1, c4b0]; rfl))))
    case rel => exact ⟨_, (true), wrE, H', ⟨by first | omega | exact Nat.le_refl _⟩, ⟨bk⟩, ⟨bw⟩⟩
   ·rw [if_neg c6] at H
    have c6b0 : decide (2000 < (l0_1.length : Int)) = false := decide_eq_false c6
    have c6b1 : decide (2000 < l0_1.length) = false := decide_eq_false (by omega)
    clear c6
    by_cases c8 : a0_4 > 200
    ·rw [if_pos c8] at H
     have c8b0 : decide (200 < a0_4) = true := decide_eq_true c8
     clear c8
     have H' := Aside0.mk H
     clear H
     obtain ⟨z9_0, z9_1, z9_2, z9_3, z9_4, z9_5, y9_0, y9_1, y9_2, y9_3, y9_4, y9_5⟩ := cells6 BK106.out
     go_wp2
     (first | go_meet | (refine Met.intro ?_; go_step; (repeat apply Exists.intro); refine ⟨?rel, ?fr_⟩; (case fr_ => first | (simp only [c8b0, c6b1, c6b0, c4b1, c4b0]; done) | (simp only [c8b0, c6b1, c6b0, c4b1, c4b0]; rfl) | (simp only [c8b0, c6b1, c6b0, c4b1, c4b0]; rfl))))
     case rel => exact ⟨_, (true), wrE, H', ⟨by first | omega | exact Nat.le_refl _⟩, ⟨bk⟩, ⟨bw⟩⟩
    ·rw [if_neg c8] at H
     have c8b0 : decide (200 < a0_4) = false := decide_eq_false c8
     clear c8
     have H' := Aside0.mk H
     clear H
     obtain ⟨z10_0, z10_1, z10_2, z10_3, z10_4, z10_5, y10_0, y10_1, y10_2, y10_3, y10_4, y10_5⟩ := cells6 BK106.out
     go_wp2
     (first | go_meet | (refine Met.intro ?_; go_step; (repeat apply Exists.intro); refine ⟨?rel, ?fr_⟩; (case fr_ => first | (simp only [c8b0, c6b1, c6b0, c4b1, c4b0]; done) | (simp only [c8b0, c6b1, c6b0, c4b1, c4b0]; rfl) | (simp only [c8b0, c6b1, c6b0, c4b1, c4b0]; rfl))))
     case rel => exact ⟨_, (decide (a0_5 > 20000)), wrE, H', ⟨by first | omega | exact Nat.le_refl _⟩, ⟨bk⟩, ⟨bw⟩⟩
 case rest =>
  clear HC2
  obtain ⟨kq, x25_1, rfl, HA, HJ1, BK106, HB⟩ := hcut
  cases kq with
  | zero => exact absurd HA.out (by simp [ocode_large.j0])
  | succ kj1 =>
   have H := HA.out
   clear HA
   simp only [ocode_large.j0] at H
   by_cases c11 : x25_1 = true
   ·subst c11
    have H1 : (some true) = some r := by rw [if_pos rfl] at H; exact H
    clear H
    have H := H1
    clear H1
    obtain rfl := Option.some.inj H
    go_wp2
    go_ret
    exact ⟨erE, bw⟩
   ·replace c11 := Bool.eq_false_iff.mpr c11
    subst c11
    have H1 : (ocode_large.l0 kj1 0 l0_1 (l0_1.length : Int) 0) = some r := by rw [if_neg (show ¬ (false = true) by decide)] at H; exact H
    clear H
    have H := H1
    clear H1
    have H' := Aside0.mk H
    clear H
    obtain ⟨z12_0, z12_1, z12_2, z12_3, z12_4, z12_5, y12_0, y12_1, y12_2, y12_3, y12_4, y12_5⟩ := cells6 BK106.out
    go_wp2
    go_loopg [3, 29] kj1 (fun kq v3 v29 w' => ∃ (x3_2 : Int) (x29_2 : Int), v3 = .int .i64 x3_2 ∧ v29 = .int .i64 x29_2 ∧ Aside0 (ocode_large.l0 kq x3_2 l0_1 (l0_1.length : Int) x29_2 = some r) ∧ Aside0 (kq ≤ kj1) ∧ Aside0 (w'.heap[gb106]? = some (.cells #[.string a0_0, (.slice A0_1 l0_1.length c0_1), (.slice A0_2 l0_2.length c0_2), (.slice A0_3 l0_3.length c0_3), .int .i64 a0_4, .int .i64 a0_5] 26 (0, 0))) ∧ Aside0 (Below w.heap.size w w'))
    case atStart => exact ⟨(0), (0), wrE, wrE, H', ⟨Nat.le_refl _⟩, ⟨bk⟩, ⟨bw⟩⟩
    case round =>
     clear H'
     clear z12_0 z12_1 z12_2 z12_3 z12_4 z12_5 y12_0 y12_1 y12_2 y12_3 y12_4 y12_5
     obtain ⟨x3_2, x29_2, rfl, rfl, HA, HK2, BK106, HB⟩ := hrel
     cases gk with
     | zero => exact absurd HA.out (by simp [ocode_large.l0])
     | succ k2 =>
      have H := HA.out
      clear HA
      simp only [ocode_large.l0] at H
      by_cases c13 : x29_2 < (l0_1.length : Int)
      ·rw [if_pos c13] at H
       have c13b0 : decide (x29_2 < (l0_1.length : Int)) = true := decide_eq_true c13
       clear c13
       by_cases c14 : 0 ≤ x29_2
       rotate_left
       ·rw [if_neg c14] at H
        exact absurd H (by simp)
       rw [if_pos c14] at H
       have c14b0 : decide (0 ≤ x29_2) = true := decide_eq_true c14
       clear c14
       by_cases c15 : x29_2 < (l0_1.length : Int)
       rotate_left
       ·rw [if_neg c15] at H
        exact absurd H (by simp)
       rw [if_pos c15] at H
       have c15b0 : decide (x29_2 < (l0_1.length : Int)) = true := decide_eq_true c15
       clear c15
       obtain ⟨bq16, hbq16⟩ : ∃ b_ : Bool, b_ = ((rd_T47 l0_1 x29_2).f1) := ⟨_, rfl⟩
       replace H : (if bq16 = true then (ocode_large.l0 k2 (wrap64 ((wrap64 (x3_2 + (((rd_T47 l0_1 x29_2).f2).length : Int))) + (wrap64 (Int.tdiv (wrap64 ((((rd_T47 l0_1 x29_2).f0).size : Int) + 2)) 2)))) l0_1 (l0_1.length : Int) (wrap64 (x29_2 + 1))) else (ocode_large.l0 k2 (wrap64 (x3_2 + (((rd_T47 l0_1 x29_2).f2).length : Int))) l0_1 (l0_1.length : Int) (wrap64 (x29_2 + 1)))) = some r := by rw [← hbq16] at H; exact H
       have Nbq16 := Aside0.mk hbq16
       clear hbq16
       by_cases c17 : bq16 = true
       ·subst c17
        have H1 : (ocode_large.l0 k2 (wrap64 ((wrap64 (x3_2 + (((rd_T47 l0_1 x29_2).f2).length : Int))) + (wrap64 (Int.tdiv (wrap64 ((((rd_T47 l0_1 x29_2).f0).size : Int) + 2)) 2)))) l0_1 (l0_1.length : Int) (wrap64 (x29_2 + 1))) = some r := by rw [if_pos rfl] at H; exact H
        clear H
        have H := H1
        clear H1
        have H' := Aside0.mk H
        clear H
        have p107 : 0 ≤ (x29_2 : Int) := ofd
        have q107 : x29_2 < (l0_1.length : Int) := ofd
        obtain ⟨ad107, A107_2, c107_2, e107, hx107_0, hx107_1, hx107_2, hl107_2, hi107_2⟩ := at_T47 HR0_1.out x29_2 p107 q107
        (try rw [← Nbq16.out] at hx107_1)
        cases e107
        replace hx107_0 := hxE HB.out hx107_0
        replace hx107_1 := hxE HB.out hx107_1
        replace hx107_2 := hxE HB.out hx107_2
        have HR107_2 := Aside0.mk hi107_2
        have HC107_2 := Aside0.mk hl107_2
        clear hi107_2 hl107_2
        replace p107 := eq_true p107
        replace q107 := eq_true q107
        go_wp2_with (first | ((with_reducible refine gate_dst (N := 5) rfl ?_); (try (refine gate_guard (by rfl) ?_; dsimp only)); refine boxev (N := 5) (cs := #[.string (⟨#[]⟩ : ByteArray), .bool false, .slice none 0 0]) (t := 47) ?_; intro gb108 hg w18 hbox hb; have BK108 := Aside0.mk (hbox); have GW108 := Aside0.mk ((by rw [hg]; exact bsz : w.heap.size ≤ gb108)); have GE108 := Aside0.mk ((by rw [hg]; exact bsz : w.heap.size ≤ gb108)); have NB106_108 := Aside0.mk ((by rw [hg]; exact Nat.ne_of_lt (bkl (g := gb106)) : gb106 ≠ gb108)); have NB108_106 := Aside0.mk ((by rw [hg]; exact Nat.ne_of_gt (bkl (g := gb106)) : gb108 ≠ gb106)); replace BK106 := Aside0.mk (bkb (g := gb106) hb); replace HB := Aside0.mk (bstep hb); clear hb hbox hg; have hnb19 := NB108_106.out; have hnc19 := NB106_108.out; obtain ⟨z20_0, z20_1, z20_2, y20_0, y20_1, y20_2⟩ := cells3 BK108.out))
        go_roundg k2
        case measure => have := HJ1.out; have := HK2.out; omega
        case rel => exact ⟨(wrap64 ((wrap64 (x3_2 + (((rd_T47 l0_1 x29_2).f2).length : Int))) + (wrap64 (Int.tdiv (wrap64 ((((rd_T47 l0_1 x29_2).f0).size : Int) + 2)) 2)))), (wrap64 (x29_2 + 1)), wrE, wrE, H', ⟨by have := HJ1.out; have := HK2.out; omega⟩, ⟨by (with_reducible repeat (first | refine blk_drewN ?_ _ | refine blk_drew ?_ | refine blk_alloc ?_ _)); refine blk_far ?_ NB106_108.out _; (with_reducible repeat (first | refine blk_drewN ?_ _ | refine blk_drew ?_ | refine blk_alloc ?_ _)); refine blk_far ?_ NB106_108.out _; (with_reducible repeat (first | refine blk_drewN ?_ _ | refine blk_drew ?_ | refine blk_alloc ?_ _)); refine blk_far ?_ NB106_108.out _; (with_reducible repeat (first | refine blk_drewN ?_ _ | refine blk_drew ?_ | refine blk_alloc ?_ _)); exact BK106.out⟩, ⟨bw⟩⟩
       ·replace c17 := Bool.eq_false_iff.mpr c17
        subst c17
        have H1 : (ocode_large.l0 k2 (wrap64 (x3_2 + (((rd_T47 l0_1 x29_2).f2).length : Int))) l0_1 (l0_1.length : Int) (wrap64 (x29_2 + 1))) = some r := by rw [if_neg (show ¬ (false = true) by decide)] at H; exact H
        clear H
        have H := H1
        clear H1
        have H' := Aside0.mk H
        clear H
        have p107 : 0 ≤ (x29_2 : Int) := ofd
        have q107 : x29_2 < (l0_1.length : Int) := ofd
        obtain ⟨ad107, A107_2, c107_2, e107, hx107_0, hx107_1, hx107_2, hl107_2, hi107_2⟩ := at_T47 HR0_1.out x29_2 p107 q107
        (try rw [← Nbq16.out] at hx107_1)
        cases e107
        replace hx107_0 := hxE HB.out hx107_0
        replace hx107_1 := hxE HB.out hx107_1
        replace hx107_2 := hxE HB.out hx107_2
        have HR107_2 := Aside0.mk hi107_2
        have HC107_2 := Aside0.mk hl107_2
        clear hi107_2 hl107_2
        replace p107 := eq_true p107
        replace q107 := eq_true q107
        go_wp2_with (first | ((with_reducible refine gate_dst (N := 5) rfl ?_); (try (refine gate_guard (by rfl) ?_; dsimp only)); refine boxev (N := 5) (cs := #[.string (⟨#[]⟩ : ByteArray), .bool false, .slice none 0 0]) (t := 47) ?_; intro gb108 hg w21 hbox hb; have BK108 := Aside0.mk (hbox); have GW108 := Aside0.mk ((by rw [hg]; exact bsz : w.heap.size ≤ gb108)); have GE108 := Aside0.mk ((by rw [hg]; exact bsz : w.heap.size ≤ gb108)); have NB106_108 := Aside0.mk ((by rw [hg]; exact Nat.ne_of_lt (bkl (g := gb106)) : gb106 ≠ gb108)); have NB108_106 := Aside0.mk ((by rw [hg]; exact Nat.ne_of_gt (bkl (g := gb106)) : gb108 ≠ gb106)); replace BK106 := Aside0.mk (bkb (g := gb106) hb); replace HB := Aside0.mk (bstep hb); clear hb hbox hg; have hnb22 := NB108_106.out; have hnc22 := NB106_108.out; obtain ⟨z23_0, z23_1, z23_2, y23_0, y23_1, y23_2⟩ := cells3 BK108.out))
        go_roundg k2
        case measure => have := HJ1.out; have := HK2.out; omega
        case rel => exact ⟨(wrap64 (x3_2 + (((rd_T47 l0_1 x29_2).f2).length : Int))), (wrap64 (x29_2 + 1)), wrE, wrE, H', ⟨by have := HJ1.out; have := HK2.out; omega⟩, ⟨by (with_reducible repeat (first | refine blk_drewN ?_ _ | refine blk_drew ?_ | refine blk_alloc ?_ _)); refine blk_far ?_ NB106_108.out _; (with_reducible repeat (first | refine blk_drewN ?_ _ | refine blk_drew ?_ | refine blk_alloc ?_ _)); refine blk_far ?_ NB106_108.out _; (with_reducible repeat (first | refine blk_drewN ?_ _ | refine blk_drew ?_ | refine blk_alloc ?_ _)); refine blk_far ?_ NB106_108.out _; (with_reducible repeat (first | refine blk_drewN ?_ _ | refine blk_drew ?_ | refine blk_alloc ?_ _)); exact BK106.out⟩, ⟨bw⟩⟩
      ·rw [if_neg c13] at H
       have c13b0 : decide (x29_2 < (l0_1.length : Int)) = false := decide_eq_false c13
       clear c13
       obtain rfl := Option.some.inj H
       go_wp2
       go_ret
       exact ⟨erE, bw⟩



/-! ### ocode_Named: function 35 -/
def ocode_Named.j0 : Nat → Int → Bool → Int → Int → Int → Option (Int)
 | 0, _, _, _, _, _ => none
 | k + 1, x4, x5, p0, p1, p2 => if x5 = true then (some p1) else (if x4 = 30 then (some p2) else (some 0))
def ocode_Named.f (k : Nat) (a0_0 : Int) (a0_1 : Int) (a0_2 : Int) : Option (Int) := if a0_0 = 20 then (ocode_Named.j0 k a0_0 (a0_0 == 20) a0_0 a0_1 a0_2) else (if a0_0 = 21 then (ocode_Named.j0 k a0_0 (a0_0 == 21) a0_0 a0_1 a0_2) else (if a0_0 = 22 then (ocode_Named.j0 k a0_0 (a0_0 == 22) a0_0 a0_1 a0_2) else (if a0_0 = 27 then (ocode_Named.j0 k a0_0 (a0_0 == 27) a0_0 a0_1 a0_2) else (ocode_Named.j0 k a0_0 (a0_0 == 29) a0_0 a0_1 a0_2))))
theorem ocode_Named.mono_l : ∀ k, (∀ y0 y1 y2 y3 y4, LeO (ocode_Named.j0 k y0 y1 y2 y3 y4) (ocode_Named.j0 (k + 1) y0 y1 y2 y3 y4))
 | 0 => fun _ _ _ _ _ r h => by simp [ocode_Named.j0] at h
 | k + 1 => by
  have ih0 := ocode_Named.mono_l k
  ·intro y0 y1 y2 y3 y4
   unfold ocode_Named.j0
   repeat' first
   | (with_reducible exact ih0 _ _ _ _ _)
   | (with_reducible exact LeO.refl _)
   | (with_reducible exact LeO.none _)
   | (with_reducible refine LeO.ite ?_ ?_)
   | (with_reducible refine LeO.bind ?_ (fun _ => ?_))
   | exact ih0 _ _ _ _ _
   | exact LeO.none _
   | refine LeO.ite ?_ ?_
   | refine LeO.bind ?_ (fun _ => ?_)
theorem ocode_Named.mono : ∀ a0 a1 a2 k, LeO (ocode_Named.f k a0 a1 a2) (ocode_Named.f (k + 1) a0 a1 a2) := by
 intro a0 a1 a2 k
 have ih0 := ocode_Named.mono_l k
 unfold ocode_Named.f
 repeat' first
   | (with_reducible exact ih0 _ _ _ _ _)
   | (with_reducible exact LeO.refl _)
   | (with_reducible exact LeO.none _)
   | (with_reducible refine LeO.ite ?_ ?_)
   | (with_reducible refine LeO.bind ?_ (fun _ => ?_))
   | exact ih0 _ _ _ _ _
   | exact LeO.none _
   | refine LeO.ite ?_ ?_
   | refine LeO.bind ?_ (fun _ => ?_)
set_option maxHeartbeats 8000000 in
set_option maxRecDepth 100000 in
theorem ocode_Named.calls (k : Nat) (a0_0 : Int) (a0_1 : Int) (a0_2 : Int) (r : Int) (w : World) (h : ocode_Named.f k a0_0 a0_1 a0_2 = some r) :
  Calls Try.prog 35 #[.agg #[.int .i64 a0_0, .int .i64 a0_1, .int .i64 a0_2]] w fun e w' => e = .returned (.int .i64 r) ∧ Below w.heap.size w w' := by
 have hu35 := Try.underlying35
 have HB := Aside0.mk (Below.refl w.heap.size w)
 have H : (if a0_0 = 20 then (ocode_Named.j0 k a0_0 (a0_0 == 20) a0_0 a0_1 a0_2) else (if a0_0 = 21 then (ocode_Named.j0 k a0_0 (a0_0 == 21) a0_0 a0_1 a0_2) else (if a0_0 = 22 then (ocode_Named.j0 k a0_0 (a0_0 == 22) a0_0 a0_1 a0_2) else (if a0_0 = 27 then (ocode_Named.j0 k a0_0 (a0_0 == 27) a0_0 a0_1 a0_2) else (ocode_Named.j0 k a0_0 (a0_0 == 29) a0_0 a0_1 a0_2))))) = some r := h
 clear h
 have HC2 := Aside0.mk H
 clear H
 go_enter Try.func35, Try.ntmps35
 go_upto_if 5 with (first | ((with_reducible refine gate_dst (N := 1) rfl ?_); refine boxev (N := 1) (cs := #[.int .i64 a0_0, .int .i64 a0_1, .int .i64 a0_2]) (t := 35) ?_; intro gb109 hg w3 hbox hb; have BK109 := Aside0.mk (hbox); have GW109 := Aside0.mk ((by rw [hg]; exact bsz : w.heap.size ≤ gb109)); have GE109 := Aside0.mk ((by rw [hg]; exact bsz : w.heap.size ≤ gb109)); replace HB := Aside0.mk (bstep hb); clear hb hbox hg; obtain ⟨z4_0, z4_1, z4_2, y4_0, y4_1, y4_2⟩ := cells3 BK109.out))
 (try simp only [Act.put, List.setIfInBounds_toArray, List.set_cons_zero, List.set_cons_succ])
 go_cut [5] (fun v5 wc => ∃ (kq : Nat) (x5_1 : Bool), v5 = .bool x5_1 ∧ Aside0 (ocode_Named.j0 kq a0_0 x5_1 a0_0 a0_1 a0_2 = some r) ∧ Aside0 (kq ≤ k) ∧ Aside0 (wc.heap[gb109]? = some (.cells #[.int .i64 a0_0, .int .i64 a0_1, .int .i64 a0_2] 35 (0, 0))) ∧ Aside0 (Below w.heap.size w wc))
 case first =>
  have H := HC2.out
  clear HC2
  by_cases c5 : a0_0 = 20
  ·rw [if_pos c5] at H
   have c5b0 : (a0_0 == 20) = true := beq_iff_eq.mpr c5
   clear c5
   (first | rw [c5b0] | (simp only [i64_w, i32_w]; rw [c5b0]) | skip)
   have H' := Aside0.mk H
   clear H
   go_wp2
   (first | go_meet | (refine Met.intro ?_; go_step; (repeat apply Exists.intro); refine ⟨?rel, ?fr_⟩; (case fr_ => first | (simp only [c5b1, c5b0]; done) | (simp only [c5b1, c5b0]; rfl) | (simp only [c5b1, c5b0]; rfl))))
   case rel => exact ⟨_, ((a0_0 == 20)), wrE, H', ⟨by first | omega | exact Nat.le_refl _⟩, ⟨bk⟩, ⟨bw⟩⟩
  ·rw [if_neg c5] at H
   have c5b0 : (a0_0 == 20) = false := beq_eq_false_iff_ne.mpr c5
   (first | rw [c5b0] | (simp only [i64_w, i32_w]; rw [c5b0]) | skip)
   by_cases c6 : a0_0 = 21
   ·rw [if_pos c6] at H
    have c6b0 : (a0_0 == 21) = true := beq_iff_eq.mpr c6
    clear c6
    have H' := Aside0.mk H
    clear H
    go_wp2
    (first | go_meet | (refine Met.intro ?_; go_step; (repeat apply Exists.intro); refine ⟨?rel, ?fr_⟩; (case fr_ => first | (simp only [c6b1, c6b0, c5b1, c5b0]; done) | (simp only [c6b1, c6b0, c5b1, c5b0]; rfl) | (simp only [c6b1, c6b0, c5b1, c5b0]; rfl))))
    case rel => exact ⟨_, ((a0_0 == 21)), wrE, H', ⟨by first | omega | exact Nat.le_refl _⟩, ⟨bk⟩, ⟨bw⟩⟩
   ·rw [if_neg c6] at H
    have c6b0 : (a0_0 == 21) = false := beq_eq_false_iff_ne.mpr c6
    by_cases c7 : a0_0 = 22
    ·rw [if_pos c7] at H
     have c7b0 : (a0_0 == 22) = true := beq_iff_eq.mpr c7
     clear c7
     have H' := Aside0.mk H
     clear H
     go_wp2
     (first | go_meet | (refine Met.intro ?_; go_step; (repeat apply Exists.intro); refine ⟨?rel, ?fr_⟩; (case fr_ => first | (simp only [c7b1, c7b0, c6b1, c6b0, c5b1, c5b0]; done) | (simp only [c7b1, c7b0, c6b1, c6b0, c5b1, c5b0]; rfl) | (simp only [c7b1, c7b0, c6b1, c6b0, c5b1, c5b0]; rfl))))
     case rel => exact ⟨_, ((a0_0 == 22)), wrE, H', ⟨by first | omega | exact Nat.le_refl _⟩, ⟨bk⟩, ⟨bw⟩⟩
    ·rw [if_neg c7] at H
     have c7b0 : (a0_0 == 22) = false := beq_eq_false_iff_ne.mpr c7
     by_cases c8 : a0_0 = 27
     ·rw [if_pos c8] at H
      have c8b0 : (a0_0 == 27) = true := beq_iff_eq.mpr c8
      clear c8
      have H' := Aside0.mk H
      clear H
      go_wp2
      (first | go_meet | (refine Met.intro ?_; go_step; (repeat apply Exists.intro); refine ⟨?rel, ?fr_⟩; (case fr_ => first | (simp only [c8b1, c8b0, c7b1, c7b0, c6b1, c6b0, c5b1, c5b0]; done) | (simp only [c8b1, c8b0, c7b1, c7b0, c6b1, c6b0, c5b1, c5b0]; rfl) | (simp only [c8b1, c8b0, c7b1, c7b0, c6b1, c6b0, c5b1, c5b0]; rfl))))
      case rel => exact ⟨_, ((a0_0 == 27)), wrE, H', ⟨by first | omega | exact Nat.le_refl _⟩, ⟨bk⟩, ⟨bw⟩⟩
     ·rw [if_neg c8] at H
      have c8b0 : (a0_0 == 27) = false := beq_eq_false_iff_ne.mpr c8
      have H' := Aside0.mk H
      clear H
      go_wp2
      (first | go_meet | (refine Met.intro ?_; go_step; (repeat apply Exists.intro); refine ⟨?rel, ?fr_⟩; (case fr_ => first | (simp only [c8b1, c8b0, c7b1, c7b0, c6b1, c6b0, c5b1, c5b0]; done) | (simp only [c8b1, c8b0, c7b1, c7b0, c6b1, c6b0, c5b1, c5b0]; rfl) | (simp only [c8b1, c8b0, c7b1, c7b0, c6b1, c6b0, c5b1, c5b0]; rfl))))
      case rel => exact ⟨_, ((a0_0 == 29)), wrE, H', ⟨by first | omega | exact Nat.le_refl _⟩, ⟨bk⟩, ⟨bw⟩⟩
 case rest =>
  clear HC2
  clear z4_0 z4_1 z4_2 y4_0 y4_1 y4_2
  obtain ⟨kq, x5_1, rfl, HA, HJ1, BK109, HB⟩ := hcut
  cases kq with
  | zero => exact absurd HA.out (by simp [ocode_Named.j0])
  | succ kj1 =>
   have H := HA.out
   clear HA
   simp only [ocode_Named.j0] at H
   by_cases c9 : x5_1 = true
   ·subst c9
    have H1 : (some a0_1) = some r := by rw [if_pos rfl] at H; exact H
    clear H
    have H := H1
    clear H1
    obtain rfl := Option.some.inj H
    obtain ⟨z10_0, z10_1, z10_2, y10_0, y10_1, y10_2⟩ := cells3 BK109.out
    go_wp2
    go_ret
    exact ⟨erE, bw⟩
   ·replace c9 := Bool.eq_false_iff.mpr c9
    subst c9
    have H1 : (if a0_0 = 30 then (some a0_2) else (some 0)) = some r := by rw [if_neg (show ¬ (false = true) by decide)] at H; exact H
    clear H
    have H := H1
    clear H1
    by_cases c11 : a0_0 = 30
    ·rw [if_pos c11] at H
     have c11b0 : (a0_0 == 30) = true := beq_iff_eq.mpr c11
     clear c11
     obtain rfl := Option.some.inj H
     obtain ⟨z12_0, z12_1, z12_2, y12_0, y12_1, y12_2⟩ := cells3 BK109.out
     go_wp2
     go_ret
     exact ⟨erE, bw⟩
    ·rw [if_neg c11] at H
     have c11b0 : (a0_0 == 30) = false := beq_eq_false_iff_ne.mpr c11
     obtain rfl := Option.some.inj H
     go_wp2
     go_ret
     exact ⟨erE, bw⟩



/-! ### ocode_numbers: function 63 -/
def ocode_numbers.j0 : Nat → Bool → Int → Int → Int → ByteArray → List (S47) → List (S35) → List (S68) → Int → Int → Option (Bool)
 | 0, _, _, _, _, _, _, _, _, _, _ => none
 | k + 1, x7, p0, p1, p2, q0, q1, q2, q3, q4, q5 => if p0 = 24 then (if x7 = true then ((ocode_in.f p2 0 8).bind fun t121 => (some t121)) else (some false)) else (if p0 = 29 then (if x7 = true then ((ocode_in.f p2 0 1000).bind fun t122 => (some t122)) else (some false)) else (if p0 = 30 then (if x7 = true then ((ocode_in.f p2 1 q5).bind fun t123 => (some t123)) else (some false)) else (if x7 = true then (some (p2 == 0)) else (some false))))
def ocode_numbers.f (k : Nat) (a0_0 : Int) (a0_1 : Int) (a0_2 : Int) (a1_0 : ByteArray) (l1_1 : List (S47)) (l1_2 : List (S35)) (l1_3 : List (S68)) (a1_4 : Int) (a1_5 : Int) (a2_0 : ByteArray) (a2_1 : Int) (a2_2 : Int) (a2_3 : Int) : Option (Bool) := if a2_1 = 0 then (ocode_numbers.j0 k (a0_1 == 0) a0_0 a0_1 a0_2 a1_0 l1_1 l1_2 l1_3 a1_4 a1_5) else (if a2_1 = 1 then ((ocode_wide.f a0_1).bind fun t114 => (ocode_numbers.j0 k t114 a0_0 a0_1 a0_2 a1_0 l1_1 l1_2 l1_3 a1_4 a1_5)) else (if a2_1 = 2 then ((ocode_in.f a0_1 0 4000).bind fun t115 => (ocode_numbers.j0 k t115 a0_0 a0_1 a0_2 a1_0 l1_1 l1_2 l1_3 a1_4 a1_5)) else (if a2_1 = 3 then ((ocode_in.f a0_1 0 199).bind fun t116 => (ocode_numbers.j0 k t116 a0_0 a0_1 a0_2 a1_0 l1_1 l1_2 l1_3 a1_4 a1_5)) else (if a2_1 = 4 then ((ocode_in.f a0_1 0 (wrap64 ((l1_1.length : Int) - 1))).bind fun t117 => (ocode_numbers.j0 k t117 a0_0 a0_1 a0_2 a1_0 l1_1 l1_2 l1_3 a1_4 a1_5)) else (if a2_1 = 5 then ((ocode_in.f a0_1 1 a1_4).bind fun t118 => (ocode_numbers.j0 k t118 a0_0 a0_1 a0_2 a1_0 l1_1 l1_2 l1_3 a1_4 a1_5)) else (if a2_1 = 6 then ((ocode_in.f a0_1 1 a1_5).bind fun t119 => (ocode_numbers.j0 k t119 a0_0 a0_1 a0_2 a1_0 l1_1 l1_2 l1_3 a1_4 a1_5)) else (if a2_1 = 7 then ((ocode_in.f a0_1 1 17).bind fun t120 => (ocode_numbers.j0 k t120 a0_0 a0_1 a0_2 a1_0 l1_1 l1_2 l1_3 a1_4 a1_5)) else (if a2_1 = 8 then (if a0_1 = 18 then (ocode_numbers.j0 k true a0_0 a0_1 a0_2 a1_0 l1_1 l1_2 l1_3 a1_4 a1_5) else (ocode_numbers.j0 k (a0_1 == 19) a0_0 a0_1 a0_2 a1_0 l1_1 l1_2 l1_3 a1_4 a1_5)) else (ocode_numbers.j0 k false a0_0 a0_1 a0_2 a1_0 l1_1 l1_2 l1_3 a1_4 a1_5)))))))))
theorem ocode_numbers.mono_l : ∀ k, (∀ y0 y1 y2 y3 y4 y5 y6 y7 y8 y9, LeO (ocode_numbers.j0 k y0 y1 y2 y3 y4 y5 y6 y7 y8 y9) (ocode_numbers.j0 (k + 1) y0 y1 y2 y3 y4 y5 y6 y7 y8 y9))
 | 0 => fun _ _ _ _ _ _ _ _ _ _ r h => by simp [ocode_numbers.j0] at h
 | k + 1 => by
  have ih0 := ocode_numbers.mono_l k
  ·intro y0 y1 y2 y3 y4 y5 y6 y7 y8 y9
   unfold ocode_numbers.j0
   repeat' first
   | (with_reducible exact ih0 _ _ _ _ _ _ _ _ _ _)
   | (with_reducible exact LeO.refl _)
   | (with_reducible exact LeO.none _)
   | (with_reducible refine LeO.ite ?_ ?_)
   | (with_reducible refine LeO.bind ?_ (fun _ => ?_))
   | exact ih0 _ _ _ _ _ _ _ _ _ _
   | exact LeO.none _
   | refine LeO.ite ?_ ?_
   | refine LeO.bind ?_ (fun _ => ?_)
theorem ocode_numbers.mono : ∀ a0 a1 a2 a3 a4 a5 a6 a7 a8 a9 a10 a11 a12 k, LeO (ocode_numbers.f k a0 a1 a2 a3 a4 a5 a6 a7 a8 a9 a10 a11 a12) (ocode_numbers.f (k + 1) a0 a1 a2 a3 a4 a5 a6 a7 a8 a9 a10 a11 a12) := by
 intro a0 a1 a2 a3 a4 a5 a6 a7 a8 a9 a10 a11 a12 k
 have ih0 := ocode_numbers.mono_l k
 unfold ocode_numbers.f
 repeat' first
   | (with_reducible exact ih0 _ _ _ _ _ _ _ _ _ _)
   | (with_reducible exact LeO.refl _)
   | (with_reducible exact LeO.none _)
   | (with_reducible refine LeO.ite ?_ ?_)
   | (with_reducible refine LeO.bind ?_ (fun _ => ?_))
   | exact ih0 _ _ _ _ _ _ _ _ _ _
   | exact LeO.none _
   | refine LeO.ite ?_ ?_
   | refine LeO.bind ?_ (fun _ => ?_)
set_option maxHeartbeats 8000000 in
set_option maxRecDepth 100000 in
theorem ocode_numbers.calls (k : Nat) (a0_0 : Int) (a0_1 : Int) (a0_2 : Int) (a1_0 : ByteArray) (A1_1 : Option Addr) (c1_1 : Nat) (l1_1 : List (S47)) (A1_2 : Option Addr) (c1_2 : Nat) (l1_2 : List (S35)) (A1_3 : Option Addr) (c1_3 : Nat) (l1_3 : List (S68)) (a1_4 : Int) (a1_5 : Int) (a2_0 : ByteArray) (a2_1 : Int) (a2_2 : Int) (a2_3 : Int) (r : Bool) (w : World) (hr1_1 : Kd.C k47 w A1_1 l1_1.length l1_1) (hc1_1 : l1_1.length ≤ c1_1) (hr1_2 : Kd.C k35 w A1_2 l1_2.length l1_2) (hc1_2 : l1_2.length ≤ c1_2) (hr1_3 : Kd.C k68 w A1_3 l1_3.length l1_3) (hc1_3 : l1_3.length ≤ c1_3) (h : ocode_numbers.f k a0_0 a0_1 a0_2 a1_0 l1_1 l1_2 l1_3 a1_4 a1_5 a2_0 a2_1 a2_2 a2_3 = some r) :
  Calls Try.prog 63 #[.agg #[.int .i64 a0_0, .int .i64 a0_1, .int .i64 a0_2], .agg #[.string a1_0, .slice A1_1 l1_1.length c1_1, .slice A1_2 l1_2.length c1_2, .slice A1_3 l1_3.length c1_3, .int .i64 a1_4, .int .i64 a1_5], .agg #[.string a2_0, .int .i64 a2_1, .int .i64 a2_2, .int .i64 a2_3]] w fun e w' => e = .returned (.bool r) ∧ Below w.heap.size w w' := by
 have hu35 := Try.underlying35
 have hu26 := Try.underlying26
 have hu53 := Try.underlying53
 have HR1_1 := Aside0.mk hr1_1
 have HC1_1 := Aside0.mk hc1_1
 clear hr1_1 hc1_1
 have HR1_2 := Aside0.mk hr1_2
 have HC1_2 := Aside0.mk hc1_2
 clear hr1_2 hc1_2
 have HR1_3 := Aside0.mk hr1_3
 have HC1_3 := Aside0.mk hc1_3
 clear hr1_3 hc1_3
 have HB := Aside0.mk (Below.refl w.heap.size w)
 have H : (if a2_1 = 0 then (ocode_numbers.j0 k (a0_1 == 0) a0_0 a0_1 a0_2 a1_0 l1_1 l1_2 l1_3 a1_4 a1_5) else (if a2_1 = 1 then ((ocode_wide.f a0_1).bind fun t114 => (ocode_numbers.j0 k t114 a0_0 a0_1 a0_2 a1_0 l1_1 l1_2 l1_3 a1_4 a1_5)) else (if a2_1 = 2 then ((ocode_in.f a0_1 0 4000).bind fun t115 => (ocode_numbers.j0 k t115 a0_0 a0_1 a0_2 a1_0 l1_1 l1_2 l1_3 a1_4 a1_5)) else (if a2_1 = 3 then ((ocode_in.f a0_1 0 199).bind fun t116 => (ocode_numbers.j0 k t116 a0_0 a0_1 a0_2 a1_0 l1_1 l1_2 l1_3 a1_4 a1_5)) else (if a2_1 = 4 then ((ocode_in.f a0_1 0 (wrap64 ((l1_1.length : Int) - 1))).bind fun t117 => (ocode_numbers.j0 k t117 a0_0 a0_1 a0_2 a1_0 l1_1 l1_2 l1_3 a1_4 a1_5)) else (if a2_1 = 5 then ((ocode_in.f a0_1 1 a1_4).bind fun t118 => (ocode_numbers.j0 k t118 a0_0 a0_1 a0_2 a1_0 l1_1 l1_2 l1_3 a1_4 a1_5)) else (if a2_1 = 6 then ((ocode_in.f a0_1 1 a1_5).bind fun t119 => (ocode_numbers.j0 k t119 a0_0 a0_1 a0_2 a1_0 l1_1 l1_2 l1_3 a1_4 a1_5)) else (if a2_1 = 7 then ((ocode_in.f a0_1 1 17).bind fun t120 => (ocode_numbers.j0 k t120 a0_0 a0_1 a0_2 a1_0 l1_1 l1_2 l1_3 a1_4 a1_5)) else (if a2_1 = 8 then (if a0_1 = 18 then (ocode_numbers.j0 k true a0_0 a0_1 a0_2 a1_0 l1_1 l1_2 l1_3 a1_4 a1_5) else (ocode_numbers.j0 k (a0_1 == 19) a0_0 a0_1 a0_2 a1_0 l1_1 l1_2 l1_3 a1_4 a1_5)) else (ocode_numbers.j0 k false a0_0 a0_1 a0_2 a1_0 l1_1 l1_2 l1_3 a1_4 a1_5)))))))))) = some r := h
 clear h
 have HC4 := Aside0.mk H
 clear H
 go_enter Try.func63, Try.ntmps63
 go_upto_block 0 with (first | ((with_reducible refine gate_dst (N := 3) rfl ?_); refine boxev (N := 3) (cs := #[.int .i64 a0_0, .int .i64 a0_1, .int .i64 a0_2]) (t := 35) ?_; intro gb111 hg w5 hbox hb; have BK111 := Aside0.mk (hbox); have GW111 := Aside0.mk ((by rw [hg]; exact bsz : w.heap.size ≤ gb111)); have GE111 := Aside0.mk ((by rw [hg]; exact bsz : w.heap.size ≤ gb111)); replace HB := Aside0.mk (bstep hb); clear hb hbox hg) | ((with_reducible refine gate_dst (N := 4) rfl ?_); refine boxev (N := 4) (cs := #[.string a1_0, .slice A1_1 l1_1.length c1_1, .slice A1_2 l1_2.length c1_2, .slice A1_3 l1_3.length c1_3, .int .i64 a1_4, .int .i64 a1_5]) (t := 26) ?_; intro gb112 hg w6 hbox hb; have BK112 := Aside0.mk (hbox); have GW112 := Aside0.mk ((by rw [hg]; exact bsz : w.heap.size ≤ gb112)); have GE112 := Aside0.mk ((by rw [hg]; exact bsz : w.heap.size ≤ gb112)); have NB111_112 := Aside0.mk ((by rw [hg]; exact Nat.ne_of_lt (bkl (g := gb111)) : gb111 ≠ gb112)); have NB112_111 := Aside0.mk ((by rw [hg]; exact Nat.ne_of_gt (bkl (g := gb111)) : gb112 ≠ gb111)); replace BK111 := Aside0.mk (bkb (g := gb111) hb); replace HB := Aside0.mk (bstep hb); clear hb hbox hg) | ((with_reducible refine gate_dst (N := 5) rfl ?_); refine boxev (N := 5) (cs := #[.string a2_0, .int .i64 a2_1, .int .i64 a2_2, .int .i64 a2_3]) (t := 53) ?_; intro gb113 hg w7 hbox hb; have BK113 := Aside0.mk (hbox); have GW113 := Aside0.mk ((by rw [hg]; exact bsz : w.heap.size ≤ gb113)); have GE113 := Aside0.mk ((by rw [hg]; exact bsz : w.heap.size ≤ gb113)); have NB111_113 := Aside0.mk ((by rw [hg]; exact Nat.ne_of_lt (bkl (g := gb111)) : gb111 ≠ gb113)); have NB113_111 := Aside0.mk ((by rw [hg]; exact Nat.ne_of_gt (bkl (g := gb111)) : gb113 ≠ gb111)); have NB112_113 := Aside0.mk ((by rw [hg]; exact Nat.ne_of_lt (bkl (g := gb112)) : gb112 ≠ gb113)); have NB113_112 := Aside0.mk ((by rw [hg]; exact Nat.ne_of_gt (bkl (g := gb112)) : gb113 ≠ gb112)); replace BK111 := Aside0.mk (bkb (g := gb111) hb); replace BK112 := Aside0.mk (bkb (g := gb112) hb); replace HB := Aside0.mk (bstep hb); clear hb hbox hg; have hnb8 := NB113_111.out; have hnc8 := NB111_113.out; have hnb9 := NB113_112.out; have hnc9 := NB112_113.out; obtain ⟨z10_0, z10_1, z10_2, z10_3, y10_0, y10_1, y10_2, y10_3⟩ := cells4 BK113.out))
 (try simp only [Act.put, List.setIfInBounds_toArray, List.set_cons_zero, List.set_cons_succ])
 go_cut [7] (fun v7 wc => ∃ (kq : Nat) (x7_3 : Bool), v7 = .bool x7_3 ∧ Aside0 (ocode_numbers.j0 kq x7_3 a0_0 a0_1 a0_2 a1_0 l1_1 l1_2 l1_3 a1_4 a1_5 = some r) ∧ Aside0 (kq ≤ k) ∧ Aside0 (wc.heap[gb111]? = some (.cells #[.int .i64 a0_0, .int .i64 a0_1, .int .i64 a0_2] 35 (0, 0))) ∧ Aside0 (wc.heap[gb112]? = some (.cells #[.string a1_0, (.slice A1_1 l1_1.length c1_1), (.slice A1_2 l1_2.length c1_2), (.slice A1_3 l1_3.length c1_3), .int .i64 a1_4, .int .i64 a1_5] 26 (0, 0))) ∧ Aside0 (wc.heap[gb113]? = some (.cells #[.string a2_0, .int .i64 a2_1, .int .i64 a2_2, .int .i64 a2_3] 53 (0, 0))) ∧ Aside0 (Below w.heap.size w wc))
 case first =>
  have H := HC4.out
  clear HC4
  by_cases c11 : a2_1 = 0
  ·rw [if_pos c11] at H
   have c11b0 : (a2_1 == 0) = true := beq_iff_eq.mpr c11
   clear c11
   (first | rw [c11b0] | (simp only [i64_w, i32_w]; rw [c11b0]) | skip)
   have H' := Aside0.mk H
   clear H
   have hnb12 := NB111_112.out
   have hnc12 := NB112_111.out
   have hnb13 := NB111_113.out
   have hnc13 := NB113_111.out
   obtain ⟨z14_0, z14_1, z14_2, y14_0, y14_1, y14_2⟩ := cells3 BK111.out
   go_wp2
   (first | go_meet | (refine Met.intro ?_; go_step; (repeat apply Exists.intro); refine ⟨?rel, ?fr_⟩; (case fr_ => first | (simp only [c11b1, c11b0]; done) | (simp only [c11b1, c11b0]; rfl) | (simp only [c11b1, c11b0]; rfl))))
   case rel => exact ⟨_, ((a0_1 == 0)), wrE, H', ⟨by first | omega | exact Nat.le_refl _⟩, ⟨bk⟩, ⟨bk⟩, ⟨bk⟩, ⟨bw⟩⟩
  ·rw [if_neg c11] at H
   have c11b0 : (a2_1 == 0) = false := beq_eq_false_iff_ne.mpr c11
   (first | rw [c11b0] | (simp only [i64_w, i32_w]; rw [c11b0]) | skip)
   by_cases c15 : a2_1 = 1
   ·rw [if_pos c15] at H
    have c15b0 : (a2_1 == 1) = true := beq_iff_eq.mpr c15
    clear c15
    replace H := Option.bind_eq_some_iff.mp H
    obtain ⟨t114, A160, H⟩ := H
    replace H : (ocode_numbers.j0 k t114 a0_0 a0_1 a0_2 a1_0 l1_1 l1_2 l1_3 a1_4 a1_5) = some r := H
    have A16 := Aside0.mk A160
    clear A160
    have H' := Aside0.mk H
    clear H
    have hnb17 := NB111_112.out
    have hnc17 := NB112_111.out
    have hnb18 := NB111_113.out
    have hnc18 := NB113_111.out
    obtain ⟨z19_0, z19_1, z19_2, y19_0, y19_1, y19_2⟩ := cells3 BK111.out
    go_wp2_with (first | ((with_reducible refine gate_callee (f := 87) rfl ?_); refine goesL_ (some 19) rfl rfl Try.func87 (by kernel_rfl) rfl #[.int .i64 a0_1] rfl mpE ?_; (with_reducible refine (ocode_wide.calls a0_1 t114 _ A16.out).mono ?_); rintro e w' ⟨rfl, ⟨nd, rfl⟩⟩; refine ⟨_, rfl, ?_⟩))
    (first | go_meet | (refine Met.intro ?_; go_step; (repeat apply Exists.intro); refine ⟨?rel, ?fr_⟩; (case fr_ => first | (simp only [c15b1, c15b0, c11b1, c11b0]; done) | (simp only [c15b1, c15b0, c11b1, c11b0]; rfl) | (simp only [c15b1, c15b0, c11b1, c11b0]; rfl))))
    case rel => exact ⟨_, (t114), wrE, H', ⟨by first | omega | exact Nat.le_refl _⟩, ⟨bk⟩, ⟨bk⟩, ⟨bk⟩, ⟨bw⟩⟩
   ·rw [if_neg c15] at H
    have c15b0 : (a2_1 == 1) = false := beq_eq_false_iff_ne.mpr c15
    by_cases c20 : a2_1 = 2
    ·rw [if_pos c20] at H
     have c20b0 : (a2_1 == 2) = true := beq_iff_eq.mpr c20
     clear c20
     replace H := Option.bind_eq_some_iff.mp H
     obtain ⟨t115, A210, H⟩ := H
     replace H : (ocode_numbers.j0 k t115 a0_0 a0_1 a0_2 a1_0 l1_1 l1_2 l1_3 a1_4 a1_5) = some r := H
     have A21 := Aside0.mk A210
     clear A210
     have H' := Aside0.mk H
     clear H
     have hnb22 := NB111_112.out
     have hnc22 := NB112_111.out
     have hnb23 := NB111_113.out
     have hnc23 := NB113_111.out
     obtain ⟨z24_0, z24_1, z24_2, y24_0, y24_1, y24_2⟩ := cells3 BK111.out
     go_wp2_with (first | ((with_reducible refine gate_callee (f := 88) rfl ?_); refine goesL_ (some 24) rfl rfl Try.func88 (by kernel_rfl) rfl #[.int .i64 a0_1, .int .i64 0, .int .i64 4000] rfl mpE ?_; (with_reducible refine (ocode_in.calls a0_1 0 4000 t115 _ A21.out).mono ?_); rintro e w' ⟨rfl, ⟨nd, rfl⟩⟩; refine ⟨_, rfl, ?_⟩))
     (first | go_meet | (refine Met.intro ?_; go_step; (repeat apply Exists.intro); refine ⟨?rel, ?fr_⟩; (case fr_ => first | (simp only [c20b1, c20b0, c15b1, c15b0, c11b1, c11b0]; done) | (simp only [c20b1, c20b0, c15b1, c15b0, c11b1, c11b0]; rfl) | (simp only [c20b1, c20b0, c15b1, c15b0, c11b1, c11b0]; rfl))))
     case rel => exact ⟨_, (t115), wrE, H', ⟨by first | omega | exact Nat.le_refl _⟩, ⟨bk⟩, ⟨bk⟩, ⟨bk⟩, ⟨bw⟩⟩
    ·rw [if_neg c20] at H
     have c20b0 : (a2_1 == 2) = false := beq_eq_false_iff_ne.mpr c20
     by_cases c25 : a2_1 = 3
     ·rw [if_pos c25] at H
      have c25b0 : (a2_1 == 3) = true := beq_iff_eq.mpr c25
      clear c25
      replace H := Option.bind_eq_some_iff.mp H
      obtain ⟨t116, A260, H⟩ := H
      replace H : (ocode_numbers.j0 k t116 a0_0 a0_1 a0_2 a1_0 l1_1 l1_2 l1_3 a1_4 a1_5) = some r := H
      have A26 := Aside0.mk A260
      clear A260
      have H' := Aside0.mk H
      clear H
      have hnb27 := NB111_112.out
      have hnc27 := NB112_111.out
      have hnb28 := NB111_113.out
      have hnc28 := NB113_111.out
      obtain ⟨z29_0, z29_1, z29_2, y29_0, y29_1, y29_2⟩ := cells3 BK111.out
      go_wp2_with (first | ((with_reducible refine gate_callee (f := 88) rfl ?_); refine goesL_ (some 29) rfl rfl Try.func88 (by kernel_rfl) rfl #[.int .i64 a0_1, .int .i64 0, .int .i64 199] rfl mpE ?_; (with_reducible refine (ocode_in.calls a0_1 0 199 t116 _ A26.out).mono ?_); rintro e w' ⟨rfl, ⟨nd, rfl⟩⟩; refine ⟨_, rfl, ?_⟩))
      (first | go_meet | (refine Met.intro ?_; go_step; (repeat apply Exists.intro); refine ⟨?rel, ?fr_⟩; (case fr_ => first | (simp only [c25b1, c25b0, c20b1, c20b0, c15b1, c15b0, c11b1, c11b0]; done) | (simp only [c25b1, c25b0, c20b1, c20b0, c15b1, c15b0, c11b1, c11b0]; rfl) | (simp only [c25b1, c25b0, c20b1, c20b0, c15b1, c15b0, c11b1, c11b0]; rfl))))
      case rel => exact ⟨_, (t116), wrE, H', ⟨by first | omega | exact Nat.le_refl _⟩, ⟨bk⟩, ⟨bk⟩, ⟨bk⟩, ⟨bw⟩⟩
     ·rw [if_neg c25] at H
      have c25b0 : (a2_1 == 3) = false := beq_eq_false_iff_ne.mpr c25
      by_cases c30 : a2_1 = 4
      ·rw [if_pos c30] at H
       have c30b0 : (a2_1 == 4) = true := beq_iff_eq.mpr c30
       clear c30
       replace H := Option.bind_eq_some_iff.mp H
       obtain ⟨t117, A310, H⟩ := H
       replace H : (ocode_numbers.j0 k t117 a0_0 a0_1 a0_2 a1_0 l1_1 l1_2 l1_3 a1_4 a1_5) = some r := H
       have A31 := Aside0.mk A310
       clear A310
       have H' := Aside0.mk H
       clear H
       have hnb32 := NB111_112.out
       have hnc32 := NB112_111.out
       have hnb33 := NB111_113.out
       have hnc33 := NB113_111.out
       obtain ⟨z34_0, z34_1, z34_2, y34_0, y34_1, y34_2⟩ := cells3 BK111.out
       have hnb35 := NB112_113.out
       have hnc35 := NB113_112.out
       obtain ⟨z36_0, z36_1, z36_2, z36_3, z36_4, z36_5, y36_0, y36_1, y36_2, y36_3, y36_4, y36_5⟩ := cells6 BK112.out
       go_wp2_with (first | ((with_reducible refine gate_callee (f := 88) rfl ?_); refine goesL_ (some 38) rfl rfl Try.func88 (by kernel_rfl) rfl #[.int .i64 a0_1, .int .i64 0, .int .i64 (wrap64 ((l1_1.length : Int) - 1))] rfl mpE ?_; (with_reducible refine (ocode_in.calls a0_1 0 (wrap64 ((l1_1.length : Int) - 1)) t117 _ A31.out).mono ?_); rintro e w' ⟨rfl, ⟨nd, rfl⟩⟩; refine ⟨_, rfl, ?_⟩))
       (first | go_meet | (refine Met.intro ?_; go_step; (repeat apply Exists.intro); refine ⟨?rel, ?fr_⟩; (case fr_ => first | (simp only [c30b1, c30b0, c25b1, c25b0, c20b1, c20b0, c15b1, c15b0, c11b1, c11b0]; done) | (simp only [c30b1, c30b0, c25b1, c25b0, c20b1, c20b0, c15b1, c15b0, c11b1, c11b0]; rfl) | (simp only [c30b1, c30b0, c25b1, c25b0, c20b1, c20b0, c15b1, c15b0, c11b1, c11b0]; rfl))))
       case rel => exact ⟨_, (t117), wrE, H', ⟨by first | omega | exact Nat.le_refl _⟩, ⟨bk⟩, ⟨bk⟩, ⟨bk⟩, ⟨bw⟩⟩
      ·rw [if_neg c30] at H
       have c30b0 : (a2_1 == 4) = false := beq_eq_false_iff_ne.mpr c30
       by_cases c37 : a2_1 = 5
       ·rw [if_pos c37] at H
        have c37b0 : (a2_1 == 5) = true := beq_iff_eq.mpr c37
        clear c37
        replace H := Option.bind_eq_some_iff.mp H
        obtain ⟨t118, A380, H⟩ := H
        replace H : (ocode_numbers.j0 k t118 a0_0 a0_1 a0_2 a1_0 l1_1 l1_2 l1_3 a1_4 a1_5) = some r := H
        have A38 := Aside0.mk A380
        clear A380
        have H' := Aside0.mk H
        clear H
        have hnb39 := NB111_112.out
        have hnc39 := NB112_111.out
        have hnb40 := NB111_113.out
        have hnc40 := NB113_111.out
        obtain ⟨z41_0, z41_1, z41_2, y41_0, y41_1, y41_2⟩ := cells3 BK111.out
        have hnb42 := NB112_113.out
        have hnc42 := NB113_112.out
        obtain ⟨z43_0, z43_1, z43_2, z43_3, z43_4, z43_5, y43_0, y43_1, y43_2, y43_3, y43_4, y43_5⟩ := cells6 BK112.out
        go_wp2_with (first | ((with_reducible refine gate_callee (f := 88) rfl ?_); refine goesL_ (some 45) rfl rfl Try.func88 (by kernel_rfl) rfl #[.int .i64 a0_1, .int .i64 1, .int .i64 a1_4] rfl mpE ?_; (with_reducible refine (ocode_in.calls a0_1 1 a1_4 t118 _ A38.out).mono ?_); rintro e w' ⟨rfl, ⟨nd, rfl⟩⟩; refine ⟨_, rfl, ?_⟩))
        (first | go_meet | (refine Met.intro ?_; go_step; (repeat apply Exists.intro); refine ⟨?rel, ?fr_⟩; (case fr_ => first | (simp only [c37b1, c37b0, c30b1, c30b0, c25b1, c25b0, c20b1, c20b0, c15b1, c15b0, c11b1, c11b0]; done) | (simp only [c37b1, c37b0, c30b1, c30b0, c25b1, c25b0, c20b1, c20b0, c15b1, c15b0, c11b1, c11b0]; rfl) | (simp only [c37b1, c37b0, c30b1, c30b0, c25b1, c25b0, c20b1, c20b0, c15b1, c15b0, c11b1, c11b0]; rfl))))
        case rel => exact ⟨_, (t118), wrE, H', ⟨by first | omega | exact Nat.le_refl _⟩, ⟨bk⟩, ⟨bk⟩, ⟨bk⟩, ⟨bw⟩⟩
       ·rw [if_neg c37] at H
        have c37b0 : (a2_1 == 5) = false := beq_eq_false_iff_ne.mpr c37
        by_cases c44 : a2_1 = 6
        ·rw [if_pos c44] at H
         have c44b0 : (a2_1 == 6) = true := beq_iff_eq.mpr c44
         clear c44
         replace H := Option.bind_eq_some_iff.mp H
         obtain ⟨t119, A450, H⟩ := H
         replace H : (ocode_numbers.j0 k t119 a0_0 a0_1 a0_2 a1_0 l1_1 l1_2 l1_3 a1_4 a1_5) = some r := H
         have A45 := Aside0.mk A450
         clear A450
         have H' := Aside0.mk H
         clear H
         have hnb46 := NB111_112.out
         have hnc46 := NB112_111.out
         have hnb47 := NB111_113.out
         have hnc47 := NB113_111.out
         obtain ⟨z48_0, z48_1, z48_2, y48_0, y48_1, y48_2⟩ := cells3 BK111.out
         have hnb49 := NB112_113.out
         have hnc49 := NB113_112.out
         obtain ⟨z50_0, z50_1, z50_2, z50_3, z50_4, z50_5, y50_0, y50_1, y50_2, y50_3, y50_4, y50_5⟩ := cells6 BK112.out
         go_wp2_with (first | ((with_reducible refine gate_callee (f := 88) rfl ?_); refine goesL_ (some 52) rfl rfl Try.func88 (by kernel_rfl) rfl #[.int .i64 a0_1, .int .i64 1, .int .i64 a1_5] rfl mpE ?_; (with_reducible refine (ocode_in.calls a0_1 1 a1_5 t119 _ A45.out).mono ?_); rintro e w' ⟨rfl, ⟨nd, rfl⟩⟩; refine ⟨_, rfl, ?_⟩))
         (first | go_meet | (refine Met.intro ?_; go_step; (repeat apply Exists.intro); refine ⟨?rel, ?fr_⟩; (case fr_ => first | (simp only [c44b1, c44b0, c37b1, c37b0, c30b1, c30b0, c25b1, c25b0, c20b1, c20b0, c15b1, c15b0, c11b1, c11b0]; done) | (simp only [c44b1, c44b0, c37b1, c37b0, c30b1, c30b0, c25b1, c25b0, c20b1, c20b0, c15b1, c15b0, c11b1, c11b0]; rfl) | (simp only [c44b1, c44b0, c37b1, c37b0, c30b1, c30b0, c25b1, c25b0, c20b1, c20b0, c15b1, c15b0, c11b1, c11b0]; rfl))))
         case rel => exact ⟨_, (t119), wrE, H', ⟨by first | omega | exact Nat.le_refl _⟩, ⟨bk⟩, ⟨bk⟩, ⟨bk⟩, ⟨bw⟩⟩
        ·rw [if_neg c44] at H
         have c44b0 : (a2_1 == 6) = false := beq_eq_false_iff_ne.mpr c44
         by_cases c51 : a2_1 = 7
         ·rw [if_pos c51] at H
          have c51b0 : (a2_1 == 7) = true := beq_iff_eq.mpr c51
          clear c51
          replace H := Option.bind_eq_some_iff.mp H
          obtain ⟨t120, A520, H⟩ := H
          replace H : (ocode_numbers.j0 k t120 a0_0 a0_1 a0_2 a1_0 l1_1 l1_2 l1_3 a1_4 a1_5) = some r := H
          have A52 := Aside0.mk A520
          clear A520
          have H' := Aside0.mk H
          clear H
          have hnb53 := NB111_112.out
          have hnc53 := NB112_111.out
          have hnb54 := NB111_113.out
          have hnc54 := NB113_111.out
          obtain ⟨z55_0, z55_1, z55_2, y55_0, y55_1, y55_2⟩ := cells3 BK111.out
          go_wp2_with (first | ((with_reducible refine gate_callee (f := 88) rfl ?_); refine goesL_ (some 57) rfl rfl Try.func88 (by kernel_rfl) rfl #[.int .i64 a0_1, .int .i64 1, .int .i64 17] rfl mpE ?_; (with_reducible refine (ocode_in.calls a0_1 1 17 t120 _ A52.out).mono ?_); rintro e w' ⟨rfl, ⟨nd, rfl⟩⟩; refine ⟨_, rfl, ?_⟩))
          (first | go_meet | (refine Met.intro ?_; go_step; (repeat apply Exists.intro); refine ⟨?rel, ?fr_⟩; (case fr_ => first | (simp only [c51b1, c51b0, c44b1, c44b0, c37b1, c37b0, c30b1, c30b0, c25b1, c25b0, c20b1, c20b0, c15b1, c15b0, c11b1, c11b0]; done) | (simp only [c51b1, c51b0, c44b1, c44b0, c37b1, c37b0, c30b1, c30b0, c25b1, c25b0, c20b1, c20b0, c15b1, c15b0, c11b1, c11b0]; rfl) | (simp only [c51b1, c51b0, c44b1, c44b0, c37b1, c37b0, c30b1, c30b0, c25b1, c25b0, c20b1, c20b0, c15b1, c15b0, c11b1, c11b0]; rfl))))
          case rel => exact ⟨_, (t120), wrE, H', ⟨by first | omega | exact Nat.le_refl _⟩, ⟨bk⟩, ⟨bk⟩, ⟨bk⟩, ⟨bw⟩⟩
         ·rw [if_neg c51] at H
          have c51b0 : (a2_1 == 7) = false := beq_eq_false_iff_ne.mpr c51
          by_cases c56 : a2_1 = 8
          ·rw [if_pos c56] at H
           have c56b0 : (a2_1 == 8) = true := beq_iff_eq.mpr c56
           clear c56
           by_cases c57 : a0_1 = 18
           ·rw [if_pos c57] at H
            have c57b0 : (a0_1 == 18) = true := beq_iff_eq.mpr c57
            clear c57
            have H' := Aside0.mk H
            clear H
            have hnb58 := NB111_112.out
            have hnc58 := NB112_111.out
            have hnb59 := NB111_113.out
            have hnc59 := NB113_111.out
            obtain ⟨z60_0, z60_1, z60_2, y60_0, y60_1, y60_2⟩ := cells3 BK111.out
            go_wp2
            (first | go_meet | (refine Met.intro ?_; go_step; (repeat apply Exists.intro); refine ⟨?rel, ?fr_⟩; (case fr_ => first | (simp only [c57b1, c57b0, c56b1, c56b0, c51b1, c51b0, c44b1, c44b0, c37b1, c37b0, c30b1, c30b0, c25b1, c25b0, c20b1, c20b0, c15b1, c15b0, c11b1, c11b0]; done) | (simp only [c57b1, c57b0, c56b1, c56b0, c51b1, c51b0, c44b1, c44b0, c37b1, c37b0, c30b1, c30b0, c25b1, c25b0, c20b1, c20b0, c15b1, c15b0, c11b1, c11b0]; rfl) | (simp only [c57b1, c57b0, c56b1, c56b0, c51b1, c51b0, c44b1, c44b0, c37b1, c37b0, c30b1, c30b0, c25b1, c25b0, c20b1, c20b0, c15b1, c15b0, c11b1, c11b0]; rfl))))
            case rel => exact ⟨_, (true), wrE, H', ⟨by first | omega | exact Nat.le_refl _⟩, ⟨bk⟩, ⟨bk⟩, ⟨bk⟩, ⟨bw⟩⟩
           ·rw [if_neg c57] at H
            have c57b0 : (a0_1 == 18) = false := beq_eq_false_iff_ne.mpr c57
            have H' := Aside0.mk H
            clear H
            have hnb61 := NB111_112.out
            have hnc61 := NB112_111.out
            have hnb62 := NB111_113.out
            have hnc62 := NB113_111.out
            obtain ⟨z63_0, z63_1, z63_2, y63_0, y63_1, y63_2⟩ := cells3 BK111.out
            go_wp2
            (first | go_meet | (refine Met.intro ?_; go_step; (repeat apply Exists.intro); refine ⟨?rel, ?fr_⟩; (case fr_ => first | (simp only [c57b1, c57b0, c56b1, c56b0, c51b1, c51b0, c44b1, c44b0, c37b1, c37b0, c30b1, c30b0, c25b1, c25b0, c20b1, c20b0, c15b1, c15b0, c11b1, c11b0]; done) | (simp only [c57b1, c57b0, c56b1, c56b0, c51b1, c51b0, c44b1, c44b0, c37b1, c37b0, c30b1, c30b0, c25b1, c25b0, c20b1, c20b0, c15b1, c15b0, c11b1, c11b0]; rfl) | (simp only [c57b1, c57b0, c56b1, c56b0, c51b1, c51b0, c44b1, c44b0, c37b1, c37b0, c30b1, c30b0, c25b1, c25b0, c20b1, c20b0, c15b1, c15b0, c11b1, c11b0]; rfl))))
            case rel => exact ⟨_, ((a0_1 == 19)), wrE, H', ⟨by first | omega | exact Nat.le_refl _⟩, ⟨bk⟩, ⟨bk⟩, ⟨bk⟩, ⟨bw⟩⟩
          ·rw [if_neg c56] at H
           have c56b0 : (a2_1 == 8) = false := beq_eq_false_iff_ne.mpr c56
           have H' := Aside0.mk H
           clear H
           go_wp2
           (first | go_meet | (refine Met.intro ?_; go_step; (repeat apply Exists.intro); refine ⟨?rel, ?fr_⟩; (case fr_ => first | (simp only [c56b1, c56b0, c51b1, c51b0, c44b1, c44b0, c37b1, c37b0, c30b1, c30b0, c25b1, c25b0, c20b1, c20b0, c15b1, c15b0, c11b1, c11b0]; done) | (simp only [c56b1, c56b0, c51b1, c51b0, c44b1, c44b0, c37b1, c37b0, c30b1, c30b0, c25b1, c25b0, c20b1, c20b0, c15b1, c15b0, c11b1, c11b0]; rfl) | (simp only [c56b1, c56b0, c51b1, c51b0, c44b1, c44b0, c37b1, c37b0, c30b1, c30b0, c25b1, c25b0, c20b1, c20b0, c15b1, c15b0, c11b1, c11b0]; rfl))))
           case rel => exact ⟨_, (false), wrE, H', ⟨by first | omega | exact Nat.le_refl _⟩, ⟨bk⟩, ⟨bk⟩, ⟨bk⟩, ⟨bw⟩⟩
 case rest =>
  clear HC4
  clear z10_0 z10_1 z10_2 z10_3 y10_0 y10_1 y10_2 y10_3
  obtain ⟨kq, x7_3, rfl, HA, HJ3, BK111, BK112, BK113, HB⟩ := hcut
  cases kq with
  | zero => exact absurd HA.out (by simp [ocode_numbers.j0])
  | succ kj3 =>
   have H := HA.out
   clear HA
   simp only [ocode_numbers.j0] at H
   by_cases c64 : a0_0 = 24
   ·rw [if_pos c64] at H
    have c64b0 : (a0_0 == 24) = true := beq_iff_eq.mpr c64
    clear c64
    by_cases c65 : x7_3 = true
    ·subst c65
     have H1 : ((ocode_in.f a0_2 0 8).bind fun t121 => (some t121)) = some r := by rw [if_pos rfl] at H; exact H
     clear H
     have H := H1
     clear H1
     replace H := Option.bind_eq_some_iff.mp H
     obtain ⟨t121, A660, H⟩ := H
     replace H : (some t121) = some r := H
     have A66 := Aside0.mk A660
     clear A660
     obtain rfl := Option.some.inj H
     have hnb67 := NB111_112.out
     have hnc67 := NB112_111.out
     have hnb68 := NB111_113.out
     have hnc68 := NB113_111.out
     obtain ⟨z69_0, z69_1, z69_2, y69_0, y69_1, y69_2⟩ := cells3 BK111.out
     go_wp2_with (first | (go_at_call 88; (with_reducible refine (ocode_in.calls a0_2 0 8 t121 _ A66.out).mono ?_); rintro e w' ⟨rfl, ⟨nd, rfl⟩⟩))
     go_ret
     exact ⟨erE, bw⟩
    ·replace c65 := Bool.eq_false_iff.mpr c65
     subst c65
     have H1 : (some false) = some r := by rw [if_neg (show ¬ (false = true) by decide)] at H; exact H
     clear H
     have H := H1
     clear H1
     obtain rfl := Option.some.inj H
     have hnb70 := NB111_112.out
     have hnc70 := NB112_111.out
     have hnb71 := NB111_113.out
     have hnc71 := NB113_111.out
     obtain ⟨z72_0, z72_1, z72_2, y72_0, y72_1, y72_2⟩ := cells3 BK111.out
     go_wp2
     go_ret
     exact ⟨erE, bw⟩
   ·rw [if_neg c64] at H
    have c64b0 : (a0_0 == 24) = false := beq_eq_false_iff_ne.mpr c64
    by_cases c73 : a0_0 = 29
    ·rw [if_pos c73] at H
     have c73b0 : (a0_0 == 29) = true := beq_iff_eq.mpr c73
     clear c73
     by_cases c74 : x7_3 = true
     ·subst c74
      have H1 : ((ocode_in.f a0_2 0 1000).bind fun t122 => (some t122)) = some r := by rw [if_pos rfl] at H; exact H
      clear H
      have H := H1
      clear H1
      replace H := Option.bind_eq_some_iff.mp H
      obtain ⟨t122, A750, H⟩ := H
      replace H : (some t122) = some r := H
      have A75 := Aside0.mk A750
      clear A750
      obtain rfl := Option.some.inj H
      have hnb76 := NB111_112.out
      have hnc76 := NB112_111.out
      have hnb77 := NB111_113.out
      have hnc77 := NB113_111.out
      obtain ⟨z78_0, z78_1, z78_2, y78_0, y78_1, y78_2⟩ := cells3 BK111.out
      go_wp2_with (first | (go_at_call 88; (with_reducible refine (ocode_in.calls a0_2 0 1000 t122 _ A75.out).mono ?_); rintro e w' ⟨rfl, ⟨nd, rfl⟩⟩))
      go_ret
      exact ⟨erE, bw⟩
     ·replace c74 := Bool.eq_false_iff.mpr c74
      subst c74
      have H1 : (some false) = some r := by rw [if_neg (show ¬ (false = true) by decide)] at H; exact H
      clear H
      have H := H1
      clear H1
      obtain rfl := Option.some.inj H
      have hnb79 := NB111_112.out
      have hnc79 := NB112_111.out
      have hnb80 := NB111_113.out
      have hnc80 := NB113_111.out
      obtain ⟨z81_0, z81_1, z81_2, y81_0, y81_1, y81_2⟩ := cells3 BK111.out
      go_wp2
      go_ret
      exact ⟨erE, bw⟩
    ·rw [if_neg c73] at H
     have c73b0 : (a0_0 == 29) = false := beq_eq_false_iff_ne.mpr c73
     by_cases c82 : a0_0 = 30
     ·rw [if_pos c82] at H
      have c82b0 : (a0_0 == 30) = true := beq_iff_eq.mpr c82
      clear c82
      by_cases c83 : x7_3 = true
      ·subst c83
       have H1 : ((ocode_in.f a0_2 1 a1_5).bind fun t123 => (some t123)) = some r := by rw [if_pos rfl] at H; exact H
       clear H
       have H := H1
       clear H1
       replace H := Option.bind_eq_some_iff.mp H
       obtain ⟨t123, A840, H⟩ := H
       replace H : (some t123) = some r := H
       have A84 := Aside0.mk A840
       clear A840
       obtain rfl := Option.some.inj H
       have hnb85 := NB111_112.out
       have hnc85 := NB112_111.out
       have hnb86 := NB111_113.out
       have hnc86 := NB113_111.out
       obtain ⟨z87_0, z87_1, z87_2, y87_0, y87_1, y87_2⟩ := cells3 BK111.out
       have hnb88 := NB112_113.out
       have hnc88 := NB113_112.out
       obtain ⟨z89_0, z89_1, z89_2, z89_3, z89_4, z89_5, y89_0, y89_1, y89_2, y89_3, y89_4, y89_5⟩ := cells6 BK112.out
       go_wp2_with (first | (go_at_call 88; (with_reducible refine (ocode_in.calls a0_2 1 a1_5 t123 _ A84.out).mono ?_); rintro e w' ⟨rfl, ⟨nd, rfl⟩⟩))
       go_ret
       exact ⟨erE, bw⟩
      ·replace c83 := Bool.eq_false_iff.mpr c83
       subst c83
       have H1 : (some false) = some r := by rw [if_neg (show ¬ (false = true) by decide)] at H; exact H
       clear H
       have H := H1
       clear H1
       obtain rfl := Option.some.inj H
       have hnb90 := NB111_112.out
       have hnc90 := NB112_111.out
       have hnb91 := NB111_113.out
       have hnc91 := NB113_111.out
       obtain ⟨z92_0, z92_1, z92_2, y92_0, y92_1, y92_2⟩ := cells3 BK111.out
       go_wp2
       go_ret
       exact ⟨erE, bw⟩
     ·rw [if_neg c82] at H
      have c82b0 : (a0_0 == 30) = false := beq_eq_false_iff_ne.mpr c82
      by_cases c93 : x7_3 = true
      ·subst c93
       have H1 : (some (a0_2 == 0)) = some r := by rw [if_pos rfl] at H; exact H
       clear H
       have H := H1
       clear H1
       obtain rfl := Option.some.inj H
       have hnb94 := NB111_112.out
       have hnc94 := NB112_111.out
       have hnb95 := NB111_113.out
       have hnc95 := NB113_111.out
       obtain ⟨z96_0, z96_1, z96_2, y96_0, y96_1, y96_2⟩ := cells3 BK111.out
       go_wp2
       go_ret
       exact ⟨erE, bw⟩
      ·replace c93 := Bool.eq_false_iff.mpr c93
       subst c93
       have H1 : (some false) = some r := by rw [if_neg (show ¬ (false = true) by decide)] at H; exact H
       clear H
       have H := H1
       clear H1
       obtain rfl := Option.some.inj H
       have hnb97 := NB111_112.out
       have hnc97 := NB112_111.out
       have hnb98 := NB111_113.out
       have hnc98 := NB113_111.out
       obtain ⟨z99_0, z99_1, z99_2, y99_0, y99_1, y99_2⟩ := cells3 BK111.out
       go_wp2
       go_ret
       exact ⟨erE, bw⟩



/-! ### ocode_Ends: function 69 -/
def ocode_Ends.j0 : Nat → List (S35) → Int → Int → Bool → Option (Bool)
 | 0, _, _, _, _ => none
 | k + 1, x0, x1, x9, x10 => if x10 = true then (some true) else (if x9 = 29 then (if 0 ≤ x1 then (if x1 < (x0.length : Int) then (some (((rd_T35 x0 x1).f2) == 0)) else (none)) else (none)) else (if x9 = 30 then (if (wrap64 (x1 + 1)) = (x0.length : Int) then (some true) else (if 0 ≤ (wrap64 (x1 + 1)) then (if (wrap64 (x1 + 1)) < (x0.length : Int) then (some (((rd_T35 x0 (wrap64 (x1 + 1))).f0) != 30)) else (none)) else (none))) else (some false)))
def ocode_Ends.f (k : Nat) (l0 : List (S35)) (a1 : Int) : Option (Bool) := if 0 ≤ a1 then (if a1 < (l0.length : Int) then (if ((rd_T35 l0 a1).f0) = 20 then (ocode_Ends.j0 k l0 a1 ((rd_T35 l0 a1).f0) (((rd_T35 l0 a1).f0) == 20)) else (if ((rd_T35 l0 a1).f0) = 25 then (ocode_Ends.j0 k l0 a1 ((rd_T35 l0 a1).f0) (((rd_T35 l0 a1).f0) == 25)) else (if ((rd_T35 l0 a1).f0) = 26 then (ocode_Ends.j0 k l0 a1 ((rd_T35 l0 a1).f0) (((rd_T35 l0 a1).f0) == 26)) else (ocode_Ends.j0 k l0 a1 ((rd_T35 l0 a1).f0) (((rd_T35 l0 a1).f0) == 27))))) else (none)) else (none)
theorem ocode_Ends.mono_l : ∀ k, (∀ y0 y1 y2 y3, LeO (ocode_Ends.j0 k y0 y1 y2 y3) (ocode_Ends.j0 (k + 1) y0 y1 y2 y3))
 | 0 => fun _ _ _ _ r h => by simp [ocode_Ends.j0] at h
 | k + 1 => by
  have ih0 := ocode_Ends.mono_l k
  ·intro y0 y1 y2 y3
   unfold ocode_Ends.j0
   repeat' first
   | (with_reducible exact ih0 _ _ _ _)
   | (with_reducible exact LeO.refl _)
   | (with_reducible exact LeO.none _)
   | (with_reducible refine LeO.ite ?_ ?_)
   | (with_reducible refine LeO.bind ?_ (fun _ => ?_))
   | exact ih0 _ _ _ _
   | exact LeO.none _
   | refine LeO.ite ?_ ?_
   | refine LeO.bind ?_ (fun _ => ?_)
theorem ocode_Ends.mono : ∀ a0 a1 k, LeO (ocode_Ends.f k a0 a1) (ocode_Ends.f (k + 1) a0 a1) := by
 intro a0 a1 k
 have ih0 := ocode_Ends.mono_l k
 unfold ocode_Ends.f
 repeat' first
   | (with_reducible exact ih0 _ _ _ _)
   | (with_reducible exact LeO.refl _)
   | (with_reducible exact LeO.none _)
   | (with_reducible refine LeO.ite ?_ ?_)
   | (with_reducible refine LeO.bind ?_ (fun _ => ?_))
   | exact ih0 _ _ _ _
   | exact LeO.none _
   | refine LeO.ite ?_ ?_
   | refine LeO.bind ?_ (fun _ => ?_)
set_option maxHeartbeats 8000000 in
set_option maxRecDepth 100000 in
theorem ocode_Ends.calls (k : Nat) (A0 : Option Addr) (c0 : Nat) (l0 : List (S35)) (a1 : Int) (r : Bool) (w : World) (hr0 : Kd.C k35 w A0 l0.length l0) (hc0 : l0.length ≤ c0) (h : ocode_Ends.f k l0 a1 = some r) :
  Calls Try.prog 69 #[.slice A0 l0.length c0, .int .i64 a1] w fun e w' => e = .returned (.bool r) ∧ Drawn0 w w' := by
 have HR0 := Aside0.mk hr0
 have HC0 := Aside0.mk hc0
 clear hr0 hc0
 have H : (if 0 ≤ a1 then (if a1 < (l0.length : Int) then (if ((rd_T35 l0 a1).f0) = 20 then (ocode_Ends.j0 k l0 a1 ((rd_T35 l0 a1).f0) (((rd_T35 l0 a1).f0) == 20)) else (if ((rd_T35 l0 a1).f0) = 25 then (ocode_Ends.j0 k l0 a1 ((rd_T35 l0 a1).f0) (((rd_T35 l0 a1).f0) == 25)) else (if ((rd_T35 l0 a1).f0) = 26 then (ocode_Ends.j0 k l0 a1 ((rd_T35 l0 a1).f0) (((rd_T35 l0 a1).f0) == 26)) else (ocode_Ends.j0 k l0 a1 ((rd_T35 l0 a1).f0) (((rd_T35 l0 a1).f0) == 27))))) else (none)) else (none)) = some r := h
 clear h
 by_cases c3 : 0 ≤ a1
 ·rw [if_pos c3] at H
  have c3b0 : decide (0 ≤ a1) = true := decide_eq_true c3
  clear c3
  by_cases c4 : a1 < (l0.length : Int)
  rotate_left
  ·rw [if_neg c4] at H
   exact absurd H (by simp)
  rw [if_pos c4] at H
  have c4b0 : decide (a1 < (l0.length : Int)) = true := decide_eq_true c4
  clear c4
  have HC5 := Aside0.mk H
  clear H
  have p136 : 0 ≤ (a1 : Int) := ofd
  have q136 : a1 < (l0.length : Int) := ofd
  obtain ⟨ad136, e136, hx136_0, hx136_1, hx136_2⟩ := at_T35 HR0.out a1 p136 q136
  cases e136
  replace p136 := eq_true p136
  replace q136 := eq_true q136
  go_enter Try.func69, Try.ntmps69
  go_upto_if 10 with (fail)
  go_cut [10] (fun v10 wc => ∃ (kq : Nat) (x10_4 : Bool), v10 = .bool x10_4 ∧ Aside0 (ocode_Ends.j0 kq l0 a1 ((rd_T35 l0 a1).f0) x10_4 = some r) ∧ Aside0 (kq ≤ k) ∧ Drawn0 w wc)
  case first =>
   have H := HC5.out
   clear HC5
   by_cases c6 : ((rd_T35 l0 a1).f0) = 20
   ·rw [if_pos c6] at H
    have c6b0 : (((rd_T35 l0 a1).f0) == 20) = true := beq_iff_eq.mpr c6
    clear c6
    (first | rw [c6b0] | (simp only [i64_w, i32_w]; rw [c6b0]) | skip)
    have H' := Aside0.mk H
    clear H
    go_wp2
    (first | go_meet | (refine Met.intro ?_; go_step; (repeat apply Exists.intro); refine ⟨?rel, ?fr_⟩; (case fr_ => first | (simp only [c6b1, c6b0]; done) | (simp only [c6b1, c6b0]; rfl) | (simp only [c6b1, c6b0]; rfl))))
    case rel => exact ⟨_, ((((rd_T35 l0 a1).f0) == 20)), wrE, H', ⟨by first | omega | exact Nat.le_refl _⟩, by repeat (first | exact Drawn0.refl _ | apply Drawn0.step)⟩
   ·rw [if_neg c6] at H
    have c6b0 : (((rd_T35 l0 a1).f0) == 20) = false := beq_eq_false_iff_ne.mpr c6
    (first | rw [c6b0] | (simp only [i64_w, i32_w]; rw [c6b0]) | skip)
    by_cases c7 : ((rd_T35 l0 a1).f0) = 25
    ·rw [if_pos c7] at H
     have c7b0 : (((rd_T35 l0 a1).f0) == 25) = true := beq_iff_eq.mpr c7
     clear c7
     have H' := Aside0.mk H
     clear H
     go_wp2
     (first | go_meet | (refine Met.intro ?_; go_step; (repeat apply Exists.intro); refine ⟨?rel, ?fr_⟩; (case fr_ => first | (simp only [c7b1, c7b0, c6b1, c6b0]; done) | (simp only [c7b1, c7b0, c6b1, c6b0]; rfl) | (simp only [c7b1, c7b0, c6b1, c6b0]; rfl))))
     case rel => exact ⟨_, ((((rd_T35 l0 a1).f0) == 25)), wrE, H', ⟨by first | omega | exact Nat.le_refl _⟩, by repeat (first | exact Drawn0.refl _ | apply Drawn0.step)⟩
    ·rw [if_neg c7] at H
     have c7b0 : (((rd_T35 l0 a1).f0) == 25) = false := beq_eq_false_iff_ne.mpr c7
     by_cases c8 : ((rd_T35 l0 a1).f0) = 26
     ·rw [if_pos c8] at H
      have c8b0 : (((rd_T35 l0 a1).f0) == 26) = true := beq_iff_eq.mpr c8
      clear c8
      have H' := Aside0.mk H
      clear H
      go_wp2
      (first | go_meet | (refine Met.intro ?_; go_step; (repeat apply Exists.intro); refine ⟨?rel, ?fr_⟩; (case fr_ => first | (simp only [c8b1, c8b0, c7b1, c7b0, c6b1, c6b0]; done) | (simp only [c8b1, c8b0, c7b1, c7b0, c6b1, c6b0]; rfl) | (simp only [c8b1, c8b0, c7b1, c7b0, c6b1, c6b0]; rfl))))
      case rel => exact ⟨_, ((((rd_T35 l0 a1).f0) == 26)), wrE, H', ⟨by first | omega | exact Nat.le_refl _⟩, by repeat (first | exact Drawn0.refl _ | apply Drawn0.step)⟩
     ·rw [if_neg c8] at H
      have c8b0 : (((rd_T35 l0 a1).f0) == 26) = false := beq_eq_false_iff_ne.mpr c8
      have H' := Aside0.mk H
      clear H
      go_wp2
      (first | go_meet | (refine Met.intro ?_; go_step; (repeat apply Exists.intro); refine ⟨?rel, ?fr_⟩; (case fr_ => first | (simp only [c8b1, c8b0, c7b1, c7b0, c6b1, c6b0]; done) | (simp only [c8b1, c8b0, c7b1, c7b0, c6b1, c6b0]; rfl) | (simp only [c8b1, c8b0, c7b1, c7b0, c6b1, c6b0]; rfl))))
      case rel => exact ⟨_, ((((rd_T35 l0 a1).f0) == 27)), wrE, H', ⟨by first | omega | exact Nat.le_refl _⟩, by repeat (first | exact Drawn0.refl _ | apply Drawn0.step)⟩
  case rest =>
   clear HC5
   clear c3b0 c4b0 hx136_0 hx136_1 hx136_2 p136 q136
   obtain ⟨kq, x10_4, rfl, HA, HJ4, ⟨mc4, rfl⟩⟩ := hcut
   cases kq with
   | zero => exact absurd HA.out (by simp [ocode_Ends.j0])
   | succ kj4 =>
    have H := HA.out
    clear HA
    simp only [ocode_Ends.j0] at H
    by_cases c9 : x10_4 = true
    ·subst c9
     have H1 : (some true) = some r := by rw [if_pos rfl] at H; exact H
     clear H
     have H := H1
     clear H1
     obtain rfl := Option.some.inj H
     go_wp2
     go_ret
     exact ⟨by first | rfl | (simp; done) | (simp [*]; done), by repeat (first | exact Drawn0.refl _ | apply Drawn0.step)⟩
    ·replace c9 := Bool.eq_false_iff.mpr c9
     subst c9
     have H1 : (if ((rd_T35 l0 a1).f0) = 29 then (if 0 ≤ a1 then (if a1 < (l0.length : Int) then (some (((rd_T35 l0 a1).f2) == 0)) else (none)) else (none)) else (if ((rd_T35 l0 a1).f0) = 30 then (if (wrap64 (a1 + 1)) = (l0.length : Int) then (some true) else (if 0 ≤ (wrap64 (a1 + 1)) then (if (wrap64 (a1 + 1)) < (l0.length : Int) then (some (((rd_T35 l0 (wrap64 (a1 + 1))).f0) != 30)) else (none)) else (none))) else (some false))) = some r := by rw [if_neg (show ¬ (false = true) by decide)] at H; exact H
     clear H
     have H := H1
     clear H1
     by_cases c10 : ((rd_T35 l0 a1).f0) = 29
     ·rw [if_pos c10] at H
      have c10b0 : (((rd_T35 l0 a1).f0) == 29) = true := beq_iff_eq.mpr c10
      clear c10
      by_cases c11 : 0 ≤ a1
      rotate_left
      ·rw [if_neg c11] at H
       exact absurd H (by simp)
      rw [if_pos c11] at H
      have c11b0 : decide (0 ≤ a1) = true := decide_eq_true c11
      clear c11
      by_cases c12 : a1 < (l0.length : Int)
      rotate_left
      ·rw [if_neg c12] at H
       exact absurd H (by simp)
      rw [if_pos c12] at H
      have c12b0 : decide (a1 < (l0.length : Int)) = true := decide_eq_true c12
      clear c12
      obtain rfl := Option.some.inj H
      have p137 : 0 ≤ (a1 : Int) := ofd
      have q137 : a1 < (l0.length : Int) := ofd
      obtain ⟨ad137, e137, hx137_0, hx137_1, hx137_2⟩ := at_T35 HR0.out a1 p137 q137
      obtain rfl : ad136 = ad137 := (by injection e137)
      replace p137 := eq_true p137
      replace q137 := eq_true q137
      go_wp2
      go_ret
      exact ⟨by first | rfl | (simp; done) | (simp [*]; done), by repeat (first | exact Drawn0.refl _ | apply Drawn0.step)⟩
     ·rw [if_neg c10] at H
      have c10b0 : (((rd_T35 l0 a1).f0) == 29) = false := beq_eq_false_iff_ne.mpr c10
      by_cases c13 : ((rd_T35 l0 a1).f0) = 30
      ·rw [if_pos c13] at H
       have c13b0 : (((rd_T35 l0 a1).f0) == 30) = true := beq_iff_eq.mpr c13
       clear c13
       by_cases c14 : (wrap64 (a1 + 1)) = (l0.length : Int)
       ·rw [if_pos c14] at H
        have c14b0 : ((wrap64 (a1 + 1)) == (l0.length : Int)) = true := beq_iff_eq.mpr c14
        clear c14
        obtain rfl := Option.some.inj H
        go_wp2
        go_ret
        exact ⟨by first | rfl | (simp; done) | (simp [*]; done), by repeat (first | exact Drawn0.refl _ | apply Drawn0.step)⟩
       ·rw [if_neg c14] at H
        have c14b0 : ((wrap64 (a1 + 1)) == (l0.length : Int)) = false := beq_eq_false_iff_ne.mpr c14
        obtain ⟨ji15, hji15⟩ : ∃ j_ : Int, (wrap64 (a1 + 1)) = j_ := ⟨_, rfl⟩
        replace H : (if 0 ≤ (ji15) then (if (ji15) < (l0.length : Int) then (some (((rd_T35 l0 (ji15)).f0) != 30)) else (none)) else (none)) = some r := by first | (rw [hji15] at H; exact H) | (simp only [hji15] at H ⊢; exact H)
        (try rw [hji15] at c14b0)
        (try rw [hji15] at c14b1)
        have hji15w : (IntKind.i64.wrap (a1 + 1)) = ji15 := (i64_w _).trans hji15
        by_cases c16 : 0 ≤ (ji15)
        rotate_left
        ·rw [if_neg c16] at H
         exact absurd H (by simp)
        rw [if_pos c16] at H
        have c16b0 : decide (0 ≤ (ji15)) = true := decide_eq_true c16
        clear c16
        by_cases c17 : (ji15) < (l0.length : Int)
        rotate_left
        ·rw [if_neg c17] at H
         exact absurd H (by simp)
        rw [if_pos c17] at H
        have c17b0 : decide ((ji15) < (l0.length : Int)) = true := decide_eq_true c17
        clear c17
        obtain rfl := Option.some.inj H
        have p138 : 0 ≤ ((ji15) : Int) := ofd
        have q138 : (ji15) < (l0.length : Int) := ofd
        obtain ⟨ad138, e138, hx138_0, hx138_1, hx138_2⟩ := at_T35 HR0.out (ji15) p138 q138
        obtain rfl : ad136 = ad138 := (by injection e138)
        replace p138 := eq_true p138
        replace q138 := eq_true q138
        go_wp2
        go_ret
        exact ⟨by first | rfl | (simp; done) | (simp only [← hji15] <;> (first | rfl | simp)) | (simp [*]; done), by repeat (first | exact Drawn0.refl _ | apply Drawn0.step)⟩
      ·rw [if_neg c13] at H
       have c13b0 : (((rd_T35 l0 a1).f0) == 30) = false := beq_eq_false_iff_ne.mpr c13
       obtain rfl := Option.some.inj H
       go_wp2
       go_ret
       exact ⟨by first | rfl | (simp; done) | (simp [*]; done), by repeat (first | exact Drawn0.refl _ | apply Drawn0.step)⟩
 ·rw [if_neg c3] at H
  exact absurd H (by simp)



/-! ### ocode_after: function 37 -/
def ocode_after.f (a0_0 : Int) (a0_1 : Int) (a0_2 : Int) (a1 : Int) (a2_0 : ByteArray) (a2_1 : Int) (a2_2 : Int) (a2_3 : Int) : Option (Int) := if a0_0 = 18 then (some a0_1) else (if a0_0 = 24 then (some (wrap64 (2 + a0_2))) else (if a0_0 = 23 then (some (wrap64 (a0_1 + 1))) else (if a0_0 = 28 then (some (wrap64 (a0_1 + 1))) else (some (wrap64 ((wrap64 (a1 - a2_2)) + a2_3))))))
set_option maxHeartbeats 8000000 in
set_option maxRecDepth 100000 in
theorem ocode_after.calls (a0_0 : Int) (a0_1 : Int) (a0_2 : Int) (a1 : Int) (a2_0 : ByteArray) (a2_1 : Int) (a2_2 : Int) (a2_3 : Int) (r : Int) (w : World) (h : ocode_after.f a0_0 a0_1 a0_2 a1 a2_0 a2_1 a2_2 a2_3 = some r) :
  Calls Try.prog 37 #[.agg #[.int .i64 a0_0, .int .i64 a0_1, .int .i64 a0_2], .int .i64 a1, .agg #[.string a2_0, .int .i64 a2_1, .int .i64 a2_2, .int .i64 a2_3]] w fun e w' => e = .returned (.int .i64 r) ∧ Below w.heap.size w w' := by
 have hu35 := Try.underlying35
 have hu53 := Try.underlying53
 have HB := Aside0.mk (Below.refl w.heap.size w)
 have H : (if a0_0 = 18 then (some a0_1) else (if a0_0 = 24 then (some (wrap64 (2 + a0_2))) else (if a0_0 = 23 then (some (wrap64 (a0_1 + 1))) else (if a0_0 = 28 then (some (wrap64 (a0_1 + 1))) else (some (wrap64 ((wrap64 (a1 - a2_2)) + a2_3))))))) = some r := h
 clear h
 by_cases c4 : a0_0 = 18
 ·rw [if_pos c4] at H
  have c4b0 : (a0_0 == 18) = true := beq_iff_eq.mpr c4
  clear c4
  obtain rfl := Option.some.inj H
  go_enter Try.func37, Try.ntmps37
  go_wp2_with (first | ((with_reducible refine gate_dst (N := 3) rfl ?_); refine boxev (N := 3) (cs := #[.int .i64 a0_0, .int .i64 a0_1, .int .i64 a0_2]) (t := 35) ?_; intro gb160 hg w5 hbox hb; have BK160 := Aside0.mk (hbox); have GW160 := Aside0.mk ((by rw [hg]; exact bsz : w.heap.size ≤ gb160)); have GE160 := Aside0.mk ((by rw [hg]; exact bsz : w.heap.size ≤ gb160)); replace HB := Aside0.mk (bstep hb); clear hb hbox hg) | ((with_reducible refine gate_dst (N := 5) rfl ?_); refine boxev (N := 5) (cs := #[.string a2_0, .int .i64 a2_1, .int .i64 a2_2, .int .i64 a2_3]) (t := 53) ?_; intro gb161 hg w6 hbox hb; have BK161 := Aside0.mk (hbox); have GW161 := Aside0.mk ((by rw [hg]; exact bsz : w.heap.size ≤ gb161)); have GE161 := Aside0.mk ((by rw [hg]; exact bsz : w.heap.size ≤ gb161)); have NB160_161 := Aside0.mk ((by rw [hg]; exact Nat.ne_of_lt (bkl (g := gb160)) : gb160 ≠ gb161)); have NB161_160 := Aside0.mk ((by rw [hg]; exact Nat.ne_of_gt (bkl (g := gb160)) : gb161 ≠ gb160)); replace BK160 := Aside0.mk (bkb (g := gb160) hb); replace HB := Aside0.mk (bstep hb); clear hb hbox hg; have hnb7 := NB160_161.out; have hnc7 := NB161_160.out; obtain ⟨z8_0, z8_1, z8_2, y8_0, y8_1, y8_2⟩ := cells3 BK160.out))
  go_ret
  exact ⟨erE, bw⟩
 ·rw [if_neg c4] at H
  have c4b0 : (a0_0 == 18) = false := beq_eq_false_iff_ne.mpr c4
  by_cases c9 : a0_0 = 24
  ·rw [if_pos c9] at H
   have c9b0 : (a0_0 == 24) = true := beq_iff_eq.mpr c9
   clear c9
   obtain rfl := Option.some.inj H
   go_enter Try.func37, Try.ntmps37
   go_wp2_with (first | ((with_reducible refine gate_dst (N := 3) rfl ?_); refine boxev (N := 3) (cs := #[.int .i64 a0_0, .int .i64 a0_1, .int .i64 a0_2]) (t := 35) ?_; intro gb160 hg w10 hbox hb; have BK160 := Aside0.mk (hbox); have GW160 := Aside0.mk ((by rw [hg]; exact bsz : w.heap.size ≤ gb160)); have GE160 := Aside0.mk ((by rw [hg]; exact bsz : w.heap.size ≤ gb160)); replace HB := Aside0.mk (bstep hb); clear hb hbox hg) | ((with_reducible refine gate_dst (N := 5) rfl ?_); refine boxev (N := 5) (cs := #[.string a2_0, .int .i64 a2_1, .int .i64 a2_2, .int .i64 a2_3]) (t := 53) ?_; intro gb161 hg w11 hbox hb; have BK161 := Aside0.mk (hbox); have GW161 := Aside0.mk ((by rw [hg]; exact bsz : w.heap.size ≤ gb161)); have GE161 := Aside0.mk ((by rw [hg]; exact bsz : w.heap.size ≤ gb161)); have NB160_161 := Aside0.mk ((by rw [hg]; exact Nat.ne_of_lt (bkl (g := gb160)) : gb160 ≠ gb161)); have NB161_160 := Aside0.mk ((by rw [hg]; exact Nat.ne_of_gt (bkl (g := gb160)) : gb161 ≠ gb160)); replace BK160 := Aside0.mk (bkb (g := gb160) hb); replace HB := Aside0.mk (bstep hb); clear hb hbox hg; have hnb12 := NB160_161.out; have hnc12 := NB161_160.out; obtain ⟨z13_0, z13_1, z13_2, y13_0, y13_1, y13_2⟩ := cells3 BK160.out))
   go_ret
   exact ⟨erE, bw⟩
  ·rw [if_neg c9] at H
   have c9b0 : (a0_0 == 24) = false := beq_eq_false_iff_ne.mpr c9
   by_cases c14 : a0_0 = 23
   ·rw [if_pos c14] at H
    have c14b0 : (a0_0 == 23) = true := beq_iff_eq.mpr c14
    clear c14
    obtain rfl := Option.some.inj H
    go_enter Try.func37, Try.ntmps37
    go_wp2_with (first | ((with_reducible refine gate_dst (N := 3) rfl ?_); refine boxev (N := 3) (cs := #[.int .i64 a0_0, .int .i64 a0_1, .int .i64 a0_2]) (t := 35) ?_; intro gb160 hg w15 hbox hb; have BK160 := Aside0.mk (hbox); have GW160 := Aside0.mk ((by rw [hg]; exact bsz : w.heap.size ≤ gb160)); have GE160 := Aside0.mk ((by rw [hg]; exact bsz : w.heap.size ≤ gb160)); replace HB := Aside0.mk (bstep hb); clear hb hbox hg) | ((with_reducible refine gate_dst (N := 5) rfl ?_); refine boxev (N := 5) (cs := #[.string a2_0, .int .i64 a2_1, .int .i64 a2_2, .int .i64 a2_3]) (t := 53) ?_; intro gb161 hg w16 hbox hb; have BK161 := Aside0.mk (hbox); have GW161 := Aside0.mk ((by rw [hg]; exact bsz : w.heap.size ≤ gb161)); have GE161 := Aside0.mk ((by rw [hg]; exact bsz : w.heap.size ≤ gb161)); have NB160_161 := Aside0.mk ((by rw [hg]; exact Nat.ne_of_lt (bkl (g := gb160)) : gb160 ≠ gb161)); have NB161_160 := Aside0.mk ((by rw [hg]; exact Nat.ne_of_gt (bkl (g := gb160)) : gb161 ≠ gb160)); replace BK160 := Aside0.mk (bkb (g := gb160) hb); replace HB := Aside0.mk (bstep hb); clear hb hbox hg; have hnb17 := NB160_161.out; have hnc17 := NB161_160.out; obtain ⟨z18_0, z18_1, z18_2, y18_0, y18_1, y18_2⟩ := cells3 BK160.out))
    go_ret
    exact ⟨erE, bw⟩
   ·rw [if_neg c14] at H
    have c14b0 : (a0_0 == 23) = false := beq_eq_false_iff_ne.mpr c14
    by_cases c19 : a0_0 = 28
    ·rw [if_pos c19] at H
     have c19b0 : (a0_0 == 28) = true := beq_iff_eq.mpr c19
     clear c19
     obtain rfl := Option.some.inj H
     go_enter Try.func37, Try.ntmps37
     go_wp2_with (first | ((with_reducible refine gate_dst (N := 3) rfl ?_); refine boxev (N := 3) (cs := #[.int .i64 a0_0, .int .i64 a0_1, .int .i64 a0_2]) (t := 35) ?_; intro gb160 hg w20 hbox hb; have BK160 := Aside0.mk (hbox); have GW160 := Aside0.mk ((by rw [hg]; exact bsz : w.heap.size ≤ gb160)); have GE160 := Aside0.mk ((by rw [hg]; exact bsz : w.heap.size ≤ gb160)); replace HB := Aside0.mk (bstep hb); clear hb hbox hg) | ((with_reducible refine gate_dst (N := 5) rfl ?_); refine boxev (N := 5) (cs := #[.string a2_0, .int .i64 a2_1, .int .i64 a2_2, .int .i64 a2_3]) (t := 53) ?_; intro gb161 hg w21 hbox hb; have BK161 := Aside0.mk (hbox); have GW161 := Aside0.mk ((by rw [hg]; exact bsz : w.heap.size ≤ gb161)); have GE161 := Aside0.mk ((by rw [hg]; exact bsz : w.heap.size ≤ gb161)); have NB160_161 := Aside0.mk ((by rw [hg]; exact Nat.ne_of_lt (bkl (g := gb160)) : gb160 ≠ gb161)); have NB161_160 := Aside0.mk ((by rw [hg]; exact Nat.ne_of_gt (bkl (g := gb160)) : gb161 ≠ gb160)); replace BK160 := Aside0.mk (bkb (g := gb160) hb); replace HB := Aside0.mk (bstep hb); clear hb hbox hg; have hnb22 := NB160_161.out; have hnc22 := NB161_160.out; obtain ⟨z23_0, z23_1, z23_2, y23_0, y23_1, y23_2⟩ := cells3 BK160.out))
     go_ret
     exact ⟨erE, bw⟩
    ·rw [if_neg c19] at H
     have c19b0 : (a0_0 == 28) = false := beq_eq_false_iff_ne.mpr c19
     obtain rfl := Option.some.inj H
     go_enter Try.func37, Try.ntmps37
     go_wp2_with (first | ((with_reducible refine gate_dst (N := 3) rfl ?_); refine boxev (N := 3) (cs := #[.int .i64 a0_0, .int .i64 a0_1, .int .i64 a0_2]) (t := 35) ?_; intro gb160 hg w24 hbox hb; have BK160 := Aside0.mk (hbox); have GW160 := Aside0.mk ((by rw [hg]; exact bsz : w.heap.size ≤ gb160)); have GE160 := Aside0.mk ((by rw [hg]; exact bsz : w.heap.size ≤ gb160)); replace HB := Aside0.mk (bstep hb); clear hb hbox hg) | ((with_reducible refine gate_dst (N := 5) rfl ?_); refine boxev (N := 5) (cs := #[.string a2_0, .int .i64 a2_1, .int .i64 a2_2, .int .i64 a2_3]) (t := 53) ?_; intro gb161 hg w25 hbox hb; have BK161 := Aside0.mk (hbox); have GW161 := Aside0.mk ((by rw [hg]; exact bsz : w.heap.size ≤ gb161)); have GE161 := Aside0.mk ((by rw [hg]; exact bsz : w.heap.size ≤ gb161)); have NB160_161 := Aside0.mk ((by rw [hg]; exact Nat.ne_of_lt (bkl (g := gb160)) : gb160 ≠ gb161)); have NB161_160 := Aside0.mk ((by rw [hg]; exact Nat.ne_of_gt (bkl (g := gb160)) : gb161 ≠ gb160)); replace BK160 := Aside0.mk (bkb (g := gb160) hb); replace HB := Aside0.mk (bstep hb); clear hb hbox hg; have hnb26 := NB160_161.out; have hnc26 := NB161_160.out; obtain ⟨z27_0, z27_1, z27_2, y27_0, y27_1, y27_2⟩ := cells3 BK160.out; obtain ⟨z28_0, z28_1, z28_2, z28_3, y28_0, y28_1, y28_2, y28_3⟩ := cells4 BK161.out))
     go_ret
     exact ⟨erE, bw⟩



/-! ### ocode_fits: function 67 -/
def ocode_fits.j0 : Nat → Int → Bool → Int → Bool → Int → Int → Int → ByteArray → Int → Int → Int → Option (Bool)
 | 0, _, _, _, _, _, _, _, _, _, _, _ => none
 | k + 1, x1, x3, x10, x11, p0, p1, p2, q0, q1, q2, q3 => if x11 = true then ((ocode_in.f p1 2 (wrap64 (x1 - 1))).bind fun t164 => (if t164 = true then (if p0 = 24 then (some true) else (some (decide ((wrap64 (x1 - q2)) ≥ 2)))) else (some false))) else (if x10 = 4 then (if p1 < 2 then (some false) else (if p0 = 24 then (some true) else (some (decide ((wrap64 (x1 - q2)) ≥ 2))))) else (if x10 = 23 then ((ocode_in.f p1 2 (wrap64 (x1 - 3))).bind fun t165 => (if t165 = true then (if p0 = 24 then (some true) else (some (decide ((wrap64 (x1 - q2)) ≥ 2)))) else (some false))) else (if x10 = 18 then (if x3 = true then (if p0 = 24 then (some true) else (some (decide ((wrap64 (x1 - q2)) ≥ 2)))) else (if p1 > (wrap64 ((wrap64 (x1 + 2000)) + 2)) then (some false) else (if p0 = 24 then (some true) else (some (decide ((wrap64 (x1 - q2)) ≥ 2)))))) else (if p0 = 24 then (some true) else (some (decide ((wrap64 (x1 - q2)) ≥ 2)))))))
def ocode_fits.f (k : Nat) (a0_0 : Int) (a0_1 : Int) (a0_2 : Int) (a1 : Int) (a2_0 : ByteArray) (a2_1 : Int) (a2_2 : Int) (a2_3 : Int) (a3 : Bool) : Option (Bool) := if a0_0 = 2 then (ocode_fits.j0 k a1 a3 a0_0 (a0_0 == 2) a0_0 a0_1 a0_2 a2_0 a2_1 a2_2 a2_3) else (ocode_fits.j0 k a1 a3 a0_0 (a0_0 == 3) a0_0 a0_1 a0_2 a2_0 a2_1 a2_2 a2_3)
theorem ocode_fits.mono_l : ∀ k, (∀ y0 y1 y2 y3 y4 y5 y6 y7 y8 y9 y10, LeO (ocode_fits.j0 k y0 y1 y2 y3 y4 y5 y6 y7 y8 y9 y10) (ocode_fits.j0 (k + 1) y0 y1 y2 y3 y4 y5 y6 y7 y8 y9 y10))
 | 0 => fun _ _ _ _ _ _ _ _ _ _ _ r h => by simp [ocode_fits.j0] at h
 | k + 1 => by
  have ih0 := ocode_fits.mono_l k
  ·intro y0 y1 y2 y3 y4 y5 y6 y7 y8 y9 y10
   unfold ocode_fits.j0
   repeat' first
   | (with_reducible exact ih0 _ _ _ _ _ _ _ _ _ _ _)
   | (with_reducible exact LeO.refl _)
   | (with_reducible exact LeO.none _)
   | (with_reducible refine LeO.ite ?_ ?_)
   | (with_reducible refine LeO.bind ?_ (fun _ => ?_))
   | exact ih0 _ _ _ _ _ _ _ _ _ _ _
   | exact LeO.none _
   | refine LeO.ite ?_ ?_
   | refine LeO.bind ?_ (fun _ => ?_)
theorem ocode_fits.mono : ∀ a0 a1 a2 a3 a4 a5 a6 a7 a8 k, LeO (ocode_fits.f k a0 a1 a2 a3 a4 a5 a6 a7 a8) (ocode_fits.f (k + 1) a0 a1 a2 a3 a4 a5 a6 a7 a8) := by
 intro a0 a1 a2 a3 a4 a5 a6 a7 a8 k
 have ih0 := ocode_fits.mono_l k
 unfold ocode_fits.f
 repeat' first
   | (with_reducible exact ih0 _ _ _ _ _ _ _ _ _ _ _)
   | (with_reducible exact LeO.refl _)
   | (with_reducible exact LeO.none _)
   | (with_reducible refine LeO.ite ?_ ?_)
   | (with_reducible refine LeO.bind ?_ (fun _ => ?_))
   | exact ih0 _ _ _ _ _ _ _ _ _ _ _
   | exact LeO.none _
   | refine LeO.ite ?_ ?_
   | refine LeO.bind ?_ (fun _ => ?_)
set_option maxHeartbeats 8000000 in
set_option maxRecDepth 100000 in
theorem ocode_fits.calls (k : Nat) (a0_0 : Int) (a0_1 : Int) (a0_2 : Int) (a1 : Int) (a2_0 : ByteArray) (a2_1 : Int) (a2_2 : Int) (a2_3 : Int) (a3 : Bool) (r : Bool) (w : World) (h : ocode_fits.f k a0_0 a0_1 a0_2 a1 a2_0 a2_1 a2_2 a2_3 a3 = some r) :
  Calls Try.prog 67 #[.agg #[.int .i64 a0_0, .int .i64 a0_1, .int .i64 a0_2], .int .i64 a1, .agg #[.string a2_0, .int .i64 a2_1, .int .i64 a2_2, .int .i64 a2_3], .bool a3] w fun e w' => e = .returned (.bool r) ∧ Below w.heap.size w w' := by
 have hu35 := Try.underlying35
 have hu53 := Try.underlying53
 have HB := Aside0.mk (Below.refl w.heap.size w)
 have H : (if a0_0 = 2 then (ocode_fits.j0 k a1 a3 a0_0 (a0_0 == 2) a0_0 a0_1 a0_2 a2_0 a2_1 a2_2 a2_3) else (ocode_fits.j0 k a1 a3 a0_0 (a0_0 == 3) a0_0 a0_1 a0_2 a2_0 a2_1 a2_2 a2_3)) = some r := h
 clear h
 have HC5 := Aside0.mk H
 clear H
 go_enter Try.func67, Try.ntmps67
 go_upto_if 11 with (first | ((with_reducible refine gate_dst (N := 4) rfl ?_); refine boxev (N := 4) (cs := #[.int .i64 a0_0, .int .i64 a0_1, .int .i64 a0_2]) (t := 35) ?_; intro gb162 hg w6 hbox hb; have BK162 := Aside0.mk (hbox); have GW162 := Aside0.mk ((by rw [hg]; exact bsz : w.heap.size ≤ gb162)); have GE162 := Aside0.mk ((by rw [hg]; exact bsz : w.heap.size ≤ gb162)); replace HB := Aside0.mk (bstep hb); clear hb hbox hg) | ((with_reducible refine gate_dst (N := 6) rfl ?_); refine boxev (N := 6) (cs := #[.string a2_0, .int .i64 a2_1, .int .i64 a2_2, .int .i64 a2_3]) (t := 53) ?_; intro gb163 hg w7 hbox hb; have BK163 := Aside0.mk (hbox); have GW163 := Aside0.mk ((by rw [hg]; exact bsz : w.heap.size ≤ gb163)); have GE163 := Aside0.mk ((by rw [hg]; exact bsz : w.heap.size ≤ gb163)); have NB162_163 := Aside0.mk ((by rw [hg]; exact Nat.ne_of_lt (bkl (g := gb162)) : gb162 ≠ gb163)); have NB163_162 := Aside0.mk ((by rw [hg]; exact Nat.ne_of_gt (bkl (g := gb162)) : gb163 ≠ gb162)); replace BK162 := Aside0.mk (bkb (g := gb162) hb); replace HB := Aside0.mk (bstep hb); clear hb hbox hg; have hnb8 := NB162_163.out; have hnc8 := NB163_162.out; obtain ⟨z9_0, z9_1, z9_2, y9_0, y9_1, y9_2⟩ := cells3 BK162.out))
 (try simp only [Act.put, List.setIfInBounds_toArray, List.set_cons_zero, List.set_cons_succ])
 go_cut [11] (fun v11 wc => ∃ (kq : Nat) (x11_4 : Bool), v11 = .bool x11_4 ∧ Aside0 (ocode_fits.j0 kq a1 a3 a0_0 x11_4 a0_0 a0_1 a0_2 a2_0 a2_1 a2_2 a2_3 = some r) ∧ Aside0 (kq ≤ k) ∧ Aside0 (wc.heap[gb162]? = some (.cells #[.int .i64 a0_0, .int .i64 a0_1, .int .i64 a0_2] 35 (0, 0))) ∧ Aside0 (wc.heap[gb163]? = some (.cells #[.string a2_0, .int .i64 a2_1, .int .i64 a2_2, .int .i64 a2_3] 53 (0, 0))) ∧ Aside0 (Below w.heap.size w wc))
 case first =>
  have H := HC5.out
  clear HC5
  by_cases c10 : a0_0 = 2
  ·rw [if_pos c10] at H
   have c10b0 : (a0_0 == 2) = true := beq_iff_eq.mpr c10
   clear c10
   (first | rw [c10b0] | (simp only [i64_w, i32_w]; rw [c10b0]) | skip)
   have H' := Aside0.mk H
   clear H
   go_wp2
   (first | go_meet | (refine Met.intro ?_; go_step; (repeat apply Exists.intro); refine ⟨?rel, ?fr_⟩; (case fr_ => first | (simp only [c10b1, c10b0]; done) | (simp only [c10b1, c10b0]; rfl) | (simp only [c10b1, c10b0]; rfl))))
   case rel => exact ⟨_, ((a0_0 == 2)), wrE, H', ⟨by first | omega | exact Nat.le_refl _⟩, ⟨bk⟩, ⟨bk⟩, ⟨bw⟩⟩
  ·rw [if_neg c10] at H
   have c10b0 : (a0_0 == 2) = false := beq_eq_false_iff_ne.mpr c10
   (first | rw [c10b0] | (simp only [i64_w, i32_w]; rw [c10b0]) | skip)
   have H' := Aside0.mk H
   clear H
   go_wp2
   (first | go_meet | (refine Met.intro ?_; go_step; (repeat apply Exists.intro); refine ⟨?rel, ?fr_⟩; (case fr_ => first | (simp only [c10b1, c10b0]; done) | (simp only [c10b1, c10b0]; rfl) | (simp only [c10b1, c10b0]; rfl))))
   case rel => exact ⟨_, ((a0_0 == 3)), wrE, H', ⟨by first | omega | exact Nat.le_refl _⟩, ⟨bk⟩, ⟨bk⟩, ⟨bw⟩⟩
 case rest =>
  clear HC5
  clear z9_0 z9_1 z9_2 y9_0 y9_1 y9_2
  obtain ⟨kq, x11_4, rfl, HA, HJ4, BK162, BK163, HB⟩ := hcut
  cases kq with
  | zero => exact absurd HA.out (by simp [ocode_fits.j0])
  | succ kj4 =>
   have H := HA.out
   clear HA
   simp only [ocode_fits.j0] at H
   by_cases c11 : x11_4 = true
   ·subst c11
    have H1 : ((ocode_in.f a0_1 2 (wrap64 (a1 - 1))).bind fun t164 => (if t164 = true then (if a0_0 = 24 then (some true) else (some (decide ((wrap64 (a1 - a2_2)) ≥ 2)))) else (some false))) = some r := by rw [if_pos rfl] at H; exact H
    clear H
    have H := H1
    clear H1
    replace H := Option.bind_eq_some_iff.mp H
    obtain ⟨t164, A120, H⟩ := H
    replace H : (if t164 = true then (if a0_0 = 24 then (some true) else (some (decide ((wrap64 (a1 - a2_2)) ≥ 2)))) else (some false)) = some r := H
    have A12 := Aside0.mk A120
    clear A120
    by_cases c13 : t164 = true
    ·subst c13
     have H1 : (if a0_0 = 24 then (some true) else (some (decide ((wrap64 (a1 - a2_2)) ≥ 2)))) = some r := by rw [if_pos rfl] at H; exact H
     clear H
     have H := H1
     clear H1
     by_cases c14 : a0_0 = 24
     ·rw [if_pos c14] at H
      have c14b0 : (a0_0 == 24) = true := beq_iff_eq.mpr c14
      clear c14
      obtain rfl := Option.some.inj H
      have hnb15 := NB162_163.out
      have hnc15 := NB163_162.out
      obtain ⟨z16_0, z16_1, z16_2, y16_0, y16_1, y16_2⟩ := cells3 BK162.out
      go_wp2_with (first | ((with_reducible refine gate_callee (f := 88) rfl ?_); refine goesL_ (some 18) rfl rfl Try.func88 (by kernel_rfl) rfl #[.int .i64 a0_1, .int .i64 2, .int .i64 (wrap64 (a1 - 1))] rfl mpE ?_; (with_reducible refine (ocode_in.calls a0_1 2 (wrap64 (a1 - 1)) true _ A12.out).mono ?_); rintro e w' ⟨rfl, ⟨nd, rfl⟩⟩; refine ⟨_, rfl, ?_⟩))
      go_ret
      exact ⟨erE, bw⟩
     ·rw [if_neg c14] at H
      have c14b0 : (a0_0 == 24) = false := beq_eq_false_iff_ne.mpr c14
      obtain rfl := Option.some.inj H
      have hnb17 := NB162_163.out
      have hnc17 := NB163_162.out
      obtain ⟨z18_0, z18_1, z18_2, y18_0, y18_1, y18_2⟩ := cells3 BK162.out
      go_wp2_with (first | ((with_reducible refine gate_callee (f := 88) rfl ?_); refine goesL_ (some 18) rfl rfl Try.func88 (by kernel_rfl) rfl #[.int .i64 a0_1, .int .i64 2, .int .i64 (wrap64 (a1 - 1))] rfl mpE ?_; (with_reducible refine (ocode_in.calls a0_1 2 (wrap64 (a1 - 1)) true _ A12.out).mono ?_); rintro e w' ⟨rfl, ⟨nd, rfl⟩⟩; refine ⟨_, rfl, ?_⟩; obtain ⟨z19_0, z19_1, z19_2, z19_3, y19_0, y19_1, y19_2, y19_3⟩ := cells4 BK163.out))
      go_ret
      exact ⟨erE, bw⟩
    ·replace c13 := Bool.eq_false_iff.mpr c13
     subst c13
     have H1 : (some false) = some r := by rw [if_neg (show ¬ (false = true) by decide)] at H; exact H
     clear H
     have H := H1
     clear H1
     obtain rfl := Option.some.inj H
     have hnb20 := NB162_163.out
     have hnc20 := NB163_162.out
     obtain ⟨z21_0, z21_1, z21_2, y21_0, y21_1, y21_2⟩ := cells3 BK162.out
     go_wp2_with (first | ((with_reducible refine gate_callee (f := 88) rfl ?_); refine goesL_ (some 18) rfl rfl Try.func88 (by kernel_rfl) rfl #[.int .i64 a0_1, .int .i64 2, .int .i64 (wrap64 (a1 - 1))] rfl mpE ?_; (with_reducible refine (ocode_in.calls a0_1 2 (wrap64 (a1 - 1)) false _ A12.out).mono ?_); rintro e w' ⟨rfl, ⟨nd, rfl⟩⟩; refine ⟨_, rfl, ?_⟩))
     go_ret
     exact ⟨erE, bw⟩
   ·replace c11 := Bool.eq_false_iff.mpr c11
    subst c11
    have H1 : (if a0_0 = 4 then (if a0_1 < 2 then (some false) else (if a0_0 = 24 then (some true) else (some (decide ((wrap64 (a1 - a2_2)) ≥ 2))))) else (if a0_0 = 23 then ((ocode_in.f a0_1 2 (wrap64 (a1 - 3))).bind fun t165 => (if t165 = true then (if a0_0 = 24 then (some true) else (some (decide ((wrap64 (a1 - a2_2)) ≥ 2)))) else (some false))) else (if a0_0 = 18 then (if a3 = true then (if a0_0 = 24 then (some true) else (some (decide ((wrap64 (a1 - a2_2)) ≥ 2)))) else (if a0_1 > (wrap64 ((wrap64 (a1 + 2000)) + 2)) then (some false) else (if a0_0 = 24 then (some true) else (some (decide ((wrap64 (a1 - a2_2)) ≥ 2)))))) else (if a0_0 = 24 then (some true) else (some (decide ((wrap64 (a1 - a2_2)) ≥ 2))))))) = some r := by rw [if_neg (show ¬ (false = true) by decide)] at H; exact H
    clear H
    have H := H1
    clear H1
    by_cases c22 : a0_0 = 4
    ·rw [if_pos c22] at H
     have c22b0 : (a0_0 == 4) = true := beq_iff_eq.mpr c22
     clear c22
     by_cases c23 : a0_1 < 2
     ·rw [if_pos c23] at H
      have c23b0 : decide (a0_1 < 2) = true := decide_eq_true c23
      clear c23
      obtain rfl := Option.some.inj H
      have hnb24 := NB162_163.out
      have hnc24 := NB163_162.out
      obtain ⟨z25_0, z25_1, z25_2, y25_0, y25_1, y25_2⟩ := cells3 BK162.out
      go_wp2
      go_ret
      exact ⟨erE, bw⟩
     ·rw [if_neg c23] at H
      have c23b0 : decide (a0_1 < 2) = false := decide_eq_false c23
      clear c23
      by_cases c26 : a0_0 = 24
      ·rw [if_pos c26] at H
       have c26b0 : (a0_0 == 24) = true := beq_iff_eq.mpr c26
       clear c26
       obtain rfl := Option.some.inj H
       have hnb27 := NB162_163.out
       have hnc27 := NB163_162.out
       obtain ⟨z28_0, z28_1, z28_2, y28_0, y28_1, y28_2⟩ := cells3 BK162.out
       go_wp2
       go_ret
       exact ⟨erE, bw⟩
      ·rw [if_neg c26] at H
       have c26b0 : (a0_0 == 24) = false := beq_eq_false_iff_ne.mpr c26
       obtain rfl := Option.some.inj H
       have hnb29 := NB162_163.out
       have hnc29 := NB163_162.out
       obtain ⟨z30_0, z30_1, z30_2, y30_0, y30_1, y30_2⟩ := cells3 BK162.out
       obtain ⟨z31_0, z31_1, z31_2, z31_3, y31_0, y31_1, y31_2, y31_3⟩ := cells4 BK163.out
       go_wp2
       go_ret
       exact ⟨erE, bw⟩
    ·rw [if_neg c22] at H
     have c22b0 : (a0_0 == 4) = false := beq_eq_false_iff_ne.mpr c22
     by_cases c32 : a0_0 = 23
     ·rw [if_pos c32] at H
      have c32b0 : (a0_0 == 23) = true := beq_iff_eq.mpr c32
      clear c32
      replace H := Option.bind_eq_some_iff.mp H
      obtain ⟨t165, A330, H⟩ := H
      replace H : (if t165 = true then (if a0_0 = 24 then (some true) else (some (decide ((wrap64 (a1 - a2_2)) ≥ 2)))) else (some false)) = some r := H
      have A33 := Aside0.mk A330
      clear A330
      by_cases c34 : t165 = true
      ·subst c34
       have H1 : (if a0_0 = 24 then (some true) else (some (decide ((wrap64 (a1 - a2_2)) ≥ 2)))) = some r := by rw [if_pos rfl] at H; exact H
       clear H
       have H := H1
       clear H1
       by_cases c35 : a0_0 = 24
       ·rw [if_pos c35] at H
        have c35b0 : (a0_0 == 24) = true := beq_iff_eq.mpr c35
        clear c35
        obtain rfl := Option.some.inj H
        have hnb36 := NB162_163.out
        have hnc36 := NB163_162.out
        obtain ⟨z37_0, z37_1, z37_2, y37_0, y37_1, y37_2⟩ := cells3 BK162.out
        go_wp2_with (first | ((with_reducible refine gate_callee (f := 88) rfl ?_); refine goesL_ (some 31) rfl rfl Try.func88 (by kernel_rfl) rfl #[.int .i64 a0_1, .int .i64 2, .int .i64 (wrap64 (a1 - 3))] rfl mpE ?_; (with_reducible refine (ocode_in.calls a0_1 2 (wrap64 (a1 - 3)) true _ A33.out).mono ?_); rintro e w' ⟨rfl, ⟨nd, rfl⟩⟩; refine ⟨_, rfl, ?_⟩))
        go_ret
        exact ⟨erE, bw⟩
       ·rw [if_neg c35] at H
        have c35b0 : (a0_0 == 24) = false := beq_eq_false_iff_ne.mpr c35
        obtain rfl := Option.some.inj H
        have hnb38 := NB162_163.out
        have hnc38 := NB163_162.out
        obtain ⟨z39_0, z39_1, z39_2, y39_0, y39_1, y39_2⟩ := cells3 BK162.out
        go_wp2_with (first | ((with_reducible refine gate_callee (f := 88) rfl ?_); refine goesL_ (some 31) rfl rfl Try.func88 (by kernel_rfl) rfl #[.int .i64 a0_1, .int .i64 2, .int .i64 (wrap64 (a1 - 3))] rfl mpE ?_; (with_reducible refine (ocode_in.calls a0_1 2 (wrap64 (a1 - 3)) true _ A33.out).mono ?_); rintro e w' ⟨rfl, ⟨nd, rfl⟩⟩; refine ⟨_, rfl, ?_⟩; obtain ⟨z40_0, z40_1, z40_2, z40_3, y40_0, y40_1, y40_2, y40_3⟩ := cells4 BK163.out))
        go_ret
        exact ⟨erE, bw⟩
      ·replace c34 := Bool.eq_false_iff.mpr c34
       subst c34
       have H1 : (some false) = some r := by rw [if_neg (show ¬ (false = true) by decide)] at H; exact H
       clear H
       have H := H1
       clear H1
       obtain rfl := Option.some.inj H
       have hnb41 := NB162_163.out
       have hnc41 := NB163_162.out
       obtain ⟨z42_0, z42_1, z42_2, y42_0, y42_1, y42_2⟩ := cells3 BK162.out
       go_wp2_with (first | ((with_reducible refine gate_callee (f := 88) rfl ?_); refine goesL_ (some 31) rfl rfl Try.func88 (by kernel_rfl) rfl #[.int .i64 a0_1, .int .i64 2, .int .i64 (wrap64 (a1 - 3))] rfl mpE ?_; (with_reducible refine (ocode_in.calls a0_1 2 (wrap64 (a1 - 3)) false _ A33.out).mono ?_); rintro e w' ⟨rfl, ⟨nd, rfl⟩⟩; refine ⟨_, rfl, ?_⟩))
       go_ret
       exact ⟨erE, bw⟩
     ·rw [if_neg c32] at H
      have c32b0 : (a0_0 == 23) = false := beq_eq_false_iff_ne.mpr c32
      by_cases c43 : a0_0 = 18
      ·rw [if_pos c43] at H
       have c43b0 : (a0_0 == 18) = true := beq_iff_eq.mpr c43
       clear c43
       by_cases c44 : a3 = true
       ·subst c44
        have H1 : (if a0_0 = 24 then (some true) else (some (decide ((wrap64 (a1 - a2_2)) ≥ 2)))) = some r := by rw [if_pos rfl] at H; exact H
        clear H
        have H := H1
        clear H1
        by_cases c45 : a0_0 = 24
        ·rw [if_pos c45] at H
         have c45b0 : (a0_0 == 24) = true := beq_iff_eq.mpr c45
         clear c45
         obtain rfl := Option.some.inj H
         have hnb46 := NB162_163.out
         have hnc46 := NB163_162.out
         obtain ⟨z47_0, z47_1, z47_2, y47_0, y47_1, y47_2⟩ := cells3 BK162.out
         go_wp2
         go_ret
         exact ⟨erE, bw⟩
        ·rw [if_neg c45] at H
         have c45b0 : (a0_0 == 24) = false := beq_eq_false_iff_ne.mpr c45
         obtain rfl := Option.some.inj H
         have hnb48 := NB162_163.out
         have hnc48 := NB163_162.out
         obtain ⟨z49_0, z49_1, z49_2, y49_0, y49_1, y49_2⟩ := cells3 BK162.out
         obtain ⟨z50_0, z50_1, z50_2, z50_3, y50_0, y50_1, y50_2, y50_3⟩ := cells4 BK163.out
         go_wp2
         go_ret
         exact ⟨erE, bw⟩
       ·replace c44 := Bool.eq_false_iff.mpr c44
        subst c44
        have H1 : (if a0_1 > (wrap64 ((wrap64 (a1 + 2000)) + 2)) then (some false) else (if a0_0 = 24 then (some true) else (some (decide ((wrap64 (a1 - a2_2)) ≥ 2))))) = some r := by rw [if_neg (show ¬ (false = true) by decide)] at H; exact H
        clear H
        have H := H1
        clear H1
        by_cases c51 : a0_1 > (wrap64 ((wrap64 (a1 + 2000)) + 2))
        ·rw [if_pos c51] at H
         have c51b0 : decide ((wrap64 ((wrap64 (a1 + 2000)) + 2)) < a0_1) = true := decide_eq_true c51
         clear c51
         obtain rfl := Option.some.inj H
         have hnb52 := NB162_163.out
         have hnc52 := NB163_162.out
         obtain ⟨z53_0, z53_1, z53_2, y53_0, y53_1, y53_2⟩ := cells3 BK162.out
         go_wp2
         go_ret
         exact ⟨erE, bw⟩
        ·rw [if_neg c51] at H
         have c51b0 : decide ((wrap64 ((wrap64 (a1 + 2000)) + 2)) < a0_1) = false := decide_eq_false c51
         clear c51
         by_cases c54 : a0_0 = 24
         ·rw [if_pos c54] at H
          have c54b0 : (a0_0 == 24) = true := beq_iff_eq.mpr c54
          clear c54
          obtain rfl := Option.some.inj H
          have hnb55 := NB162_163.out
          have hnc55 := NB163_162.out
          obtain ⟨z56_0, z56_1, z56_2, y56_0, y56_1, y56_2⟩ := cells3 BK162.out
          go_wp2
          go_ret
          exact ⟨erE, bw⟩
         ·rw [if_neg c54] at H
          have c54b0 : (a0_0 == 24) = false := beq_eq_false_iff_ne.mpr c54
          obtain rfl := Option.some.inj H
          have hnb57 := NB162_163.out
          have hnc57 := NB163_162.out
          obtain ⟨z58_0, z58_1, z58_2, y58_0, y58_1, y58_2⟩ := cells3 BK162.out
          obtain ⟨z59_0, z59_1, z59_2, z59_3, y59_0, y59_1, y59_2, y59_3⟩ := cells4 BK163.out
          go_wp2
          go_ret
          exact ⟨erE, bw⟩
      ·rw [if_neg c43] at H
       have c43b0 : (a0_0 == 18) = false := beq_eq_false_iff_ne.mpr c43
       by_cases c60 : a0_0 = 24
       ·rw [if_pos c60] at H
        have c60b0 : (a0_0 == 24) = true := beq_iff_eq.mpr c60
        clear c60
        obtain rfl := Option.some.inj H
        have hnb61 := NB162_163.out
        have hnc61 := NB163_162.out
        obtain ⟨z62_0, z62_1, z62_2, y62_0, y62_1, y62_2⟩ := cells3 BK162.out
        go_wp2
        go_ret
        exact ⟨erE, bw⟩
       ·rw [if_neg c60] at H
        have c60b0 : (a0_0 == 24) = false := beq_eq_false_iff_ne.mpr c60
        obtain rfl := Option.some.inj H
        have hnb63 := NB162_163.out
        have hnc63 := NB163_162.out
        obtain ⟨z64_0, z64_1, z64_2, y64_0, y64_1, y64_2⟩ := cells3 BK162.out
        obtain ⟨z65_0, z65_1, z65_2, z65_3, y65_0, y65_1, y65_2, y65_3⟩ := cells4 BK163.out
        go_wp2
        go_ret
        exact ⟨erE, bw⟩



/-! ### ocode_leads: function 68 -/
def ocode_leads.l0 : Nat → List (S35) → Int → Option (Int)
  | 0, _, _ => none
  | k + 1, x0, x1 => if 0 ≤ x1 then (if x1 < (x0.length : Int) then (if ((rd_T35 x0 x1).f0) = 19 then (ocode_leads.l0 k x0 (wrap64 (x1 + 1))) else (some x1)) else (none)) else (none)
def ocode_leads.f (k : Nat) (l0 : List (S35)) (a1 : Int) : Option (Int) := ocode_leads.l0 k l0 a1
theorem ocode_leads.mono_l : ∀ k, (∀ y0 y1, LeO (ocode_leads.l0 k y0 y1) (ocode_leads.l0 (k + 1) y0 y1))
  | 0 => fun _ _ r h => by simp [ocode_leads.l0] at h
  | k + 1 => by
    have ih0 := ocode_leads.mono_l k
    · intro y0 y1
      unfold ocode_leads.l0
      repeat' first
      | (with_reducible exact ih0 _ _)
      | (with_reducible exact LeO.refl _)
      | (with_reducible exact LeO.none _)
      | (with_reducible refine LeO.ite ?_ ?_)
      | (with_reducible refine LeO.bind ?_ (fun _ => ?_))
      | exact ih0 _ _
      | exact LeO.none _
      | refine LeO.ite ?_ ?_
      | refine LeO.bind ?_ (fun _ => ?_)
theorem ocode_leads.mono : ∀ a0 a1 k, LeO (ocode_leads.f k a0 a1) (ocode_leads.f (k + 1) a0 a1) := by
  intro a0 a1 k
  have ih0 := ocode_leads.mono_l k
  unfold ocode_leads.f
  repeat' first
      | (with_reducible exact ih0 _ _)
      | (with_reducible exact LeO.refl _)
      | (with_reducible exact LeO.none _)
      | (with_reducible refine LeO.ite ?_ ?_)
      | (with_reducible refine LeO.bind ?_ (fun _ => ?_))
      | exact ih0 _ _
      | exact LeO.none _
      | refine LeO.ite ?_ ?_
      | refine LeO.bind ?_ (fun _ => ?_)
set_option maxHeartbeats 8000000 in
set_option maxRecDepth 100000 in
theorem ocode_leads.calls (k : Nat) (A0 : Option Addr) (c0 : Nat) (l0 : List (S35)) (a1 : Int) (r : Int) (w : World) (hr0 : Kd.C k35 w A0 l0.length l0) (hc0 : l0.length ≤ c0) (h : ocode_leads.f k l0 a1 = some r) :
    Calls Try.prog 68 #[.slice A0 l0.length c0, .int .i64 a1] w fun e w' => e = .returned (.int .i64 r) ∧ Drawn0 w w' := by
  have HR0 := Aside0.mk hr0
  have HC0 := Aside0.mk hc0
  clear hr0 hc0
  have H : (ocode_leads.l0 k l0 a1) = some r := h
  clear h
  have H' := Aside0.mk H
  clear H
  go_enter Try.func68, Try.ntmps68
  go_wp2
  go_loopg [1] k (fun kq v1 w' => ∃ (x1_1 : Int), v1 = .int .i64 x1_1 ∧ Aside0 (ocode_leads.l0 kq l0 x1_1 = some r) ∧ Aside0 (kq ≤ k) ∧ Drawn0 w w')
  case atStart => exact ⟨(a1), (by first | rfl | (simp; done) | (simp [*]; done)), H', ⟨Nat.le_refl _⟩, by repeat (first | exact Drawn0.refl _ | apply Drawn0.step)⟩
  case round =>
    clear H'
    try clear p2
    obtain ⟨x1_1, rfl, HA, HK1, ⟨m1, rfl⟩⟩ := hrel
    cases gk with
    | zero => exact absurd HA.out (by simp [ocode_leads.l0])
    | succ k1 =>
      have H := HA.out
      clear HA
      simp only [ocode_leads.l0] at H
      by_cases c3 : 0 ≤ x1_1
      · rw [if_pos c3] at H
        have c3b0 : decide (0 ≤ x1_1) = true := decide_eq_true c3
        clear c3
        by_cases c4 : x1_1 < (l0.length : Int)
        · rw [if_pos c4] at H
          have c4b0 : decide (x1_1 < (l0.length : Int)) = true := decide_eq_true c4
          clear c4
          by_cases c5 : ((rd_T35 l0 x1_1).f0) = 19
          · rw [if_pos c5] at H
            have c5b0 : (((rd_T35 l0 x1_1).f0) == 19) = true := beq_iff_eq.mpr c5
            have c5b1 : (((rd_T35 l0 x1_1).f0) != 19) = false := bne_eq_false_iff_eq.mpr c5
            clear c5
            have H' := Aside0.mk H
            clear H
            have p166 : 0 ≤ (x1_1 : Int) := of_decide_eq_true (by first | (with_reducible assumption) | assumption)
            have q166 : x1_1 < (l0.length : Int) := of_decide_eq_true (by first | (with_reducible assumption) | assumption)
            obtain ⟨ad166, e166, hx166_0, hx166_1, hx166_2⟩ := at_T35 HR0.out x1_1 p166 q166
            cases e166
            replace p166 := eq_true p166
            replace q166 := eq_true q166
            go_wp2
            go_roundg k1
            case measure => have := HK1.out; omega
            case rel => exact ⟨(wrap64 (x1_1 + 1)), (by first | rfl | (simp; done) | (simp [*]; done)), H', ⟨by have := HK1.out; omega⟩, by repeat (first | exact Drawn0.refl _ | apply Drawn0.step)⟩
          · rw [if_neg c5] at H
            have c5b0 : (((rd_T35 l0 x1_1).f0) == 19) = false := beq_eq_false_iff_ne.mpr c5
            have c5b1 : (((rd_T35 l0 x1_1).f0) != 19) = true := bne_iff_ne.mpr c5
            obtain rfl := Option.some.inj H
            have p166 : 0 ≤ (x1_1 : Int) := of_decide_eq_true (by first | (with_reducible assumption) | assumption)
            have q166 : x1_1 < (l0.length : Int) := of_decide_eq_true (by first | (with_reducible assumption) | assumption)
            obtain ⟨ad166, e166, hx166_0, hx166_1, hx166_2⟩ := at_T35 HR0.out x1_1 p166 q166
            cases e166
            replace p166 := eq_true p166
            replace q166 := eq_true q166
            go_wp2
            go_ret
            exact ⟨by first | rfl | (simp; done) | (simp [*]; done), by repeat (first | exact Drawn0.refl _ | apply Drawn0.step)⟩
        · rw [if_neg c4] at H
          exact absurd H (by simp)
      · rw [if_neg c3] at H
        exact absurd H (by simp)



/-! ### bluebellref00_HeavyCode: function 34 -/
def bluebellref00_HeavyCode.l0 : Nat → Int → Int → Int → ByteArray → List (S47) → List (S35) → List (S68) → Int → Int → Option (Bool)
 | 0, _, _, _, _, _, _, _, _, _ => none
 | k + 1, x1, x5, x6, p0, p1, p2, p3, p4, p5 => if x6 < (p1.length : Int) then (if x5 ≤ 2000 then (if 0 ≤ x6 then (bluebellref00_HeavyCode.l0 k x1 (wrap64 ((wrap64 ((wrap64 (x5 + 1)) + (((rd_T47 p1 x6).f0).size : Int))) + (((rd_T47 p1 x6).f2).length : Int))) (wrap64 (x6 + 1)) p0 p1 p2 p3 p4 p5) else (none)) else (if (p2.length : Int) > x1 then (some true) else (if (p3.length : Int) > 400 then (some true) else (some (decide (x5 > 2000)))))) else (if (p2.length : Int) > x1 then (some true) else (if (p3.length : Int) > 400 then (some true) else (some (decide (x5 > 2000)))))
def bluebellref00_HeavyCode.f (k : Nat) (a0_0 : ByteArray) (l0_1 : List (S47)) (l0_2 : List (S35)) (l0_3 : List (S68)) (a0_4 : Int) (a0_5 : Int) (a1 : Int) : Option (Bool) := bluebellref00_HeavyCode.l0 k a1 (a0_0.size : Int) 0 a0_0 l0_1 l0_2 l0_3 a0_4 a0_5
theorem bluebellref00_HeavyCode.mono_l : ∀ k, (∀ y0 y1 y2 y3 y4 y5 y6 y7 y8, LeO (bluebellref00_HeavyCode.l0 k y0 y1 y2 y3 y4 y5 y6 y7 y8) (bluebellref00_HeavyCode.l0 (k + 1) y0 y1 y2 y3 y4 y5 y6 y7 y8))
 | 0 => fun _ _ _ _ _ _ _ _ _ r h => by simp [bluebellref00_HeavyCode.l0] at h
 | k + 1 => by
  have ih0 := bluebellref00_HeavyCode.mono_l k
  ·intro y0 y1 y2 y3 y4 y5 y6 y7 y8
   unfold bluebellref00_HeavyCode.l0
   repeat' first
   | (with_reducible exact ih0 _ _ _ _ _ _ _ _ _)
   | (with_reducible exact LeO.refl _)
   | (with_reducible exact LeO.none _)
   | (with_reducible refine LeO.ite ?_ ?_)
   | (with_reducible refine LeO.bind ?_ (fun _ => ?_))
   | exact ih0 _ _ _ _ _ _ _ _ _
   | exact LeO.none _
   | refine LeO.ite ?_ ?_
   | refine LeO.bind ?_ (fun _ => ?_)
theorem bluebellref00_HeavyCode.mono : ∀ a0 a1 a2 a3 a4 a5 a6 k, LeO (bluebellref00_HeavyCode.f k a0 a1 a2 a3 a4 a5 a6) (bluebellref00_HeavyCode.f (k + 1) a0 a1 a2 a3 a4 a5 a6) := by
 intro a0 a1 a2 a3 a4 a5 a6 k
 have ih0 := bluebellref00_HeavyCode.mono_l k
 unfold bluebellref00_HeavyCode.f
 repeat' first
   | (with_reducible exact ih0 _ _ _ _ _ _ _ _ _)
   | (with_reducible exact LeO.refl _)
   | (with_reducible exact LeO.none _)
   | (with_reducible refine LeO.ite ?_ ?_)
   | (with_reducible refine LeO.bind ?_ (fun _ => ?_))
   | exact ih0 _ _ _ _ _ _ _ _ _
   | exact LeO.none _
   | refine LeO.ite ?_ ?_
   | refine LeO.bind ?_ (fun _ => ?_)
set_option maxHeartbeats 8000000 in
set_option maxRecDepth 100000 in
theorem bluebellref00_HeavyCode.calls (k : Nat) (a0_0 : ByteArray) (A0_1 : Option Addr) (c0_1 : Nat) (l0_1 : List (S47)) (A0_2 : Option Addr) (c0_2 : Nat) (l0_2 : List (S35)) (A0_3 : Option Addr) (c0_3 : Nat) (l0_3 : List (S68)) (a0_4 : Int) (a0_5 : Int) (a1 : Int) (r : Bool) (w : World) (hr0_1 : Kd.C k47 w A0_1 l0_1.length l0_1) (hc0_1 : l0_1.length ≤ c0_1) (hr0_2 : Kd.C k35 w A0_2 l0_2.length l0_2) (hc0_2 : l0_2.length ≤ c0_2) (hr0_3 : Kd.C k68 w A0_3 l0_3.length l0_3) (hc0_3 : l0_3.length ≤ c0_3) (h : bluebellref00_HeavyCode.f k a0_0 l0_1 l0_2 l0_3 a0_4 a0_5 a1 = some r) :
  Calls Try.prog 34 #[.agg #[.string a0_0, .slice A0_1 l0_1.length c0_1, .slice A0_2 l0_2.length c0_2, .slice A0_3 l0_3.length c0_3, .int .i64 a0_4, .int .i64 a0_5], .int .i64 a1] w fun e w' => e = .returned (.bool r) ∧ Below w.heap.size w w' := by
 have hu26 := Try.underlying26
 have HR0_1 := Aside0.mk hr0_1
 have HC0_1 := Aside0.mk hc0_1
 clear hr0_1 hc0_1
 have HR0_2 := Aside0.mk hr0_2
 have HC0_2 := Aside0.mk hc0_2
 clear hr0_2 hc0_2
 have HR0_3 := Aside0.mk hr0_3
 have HC0_3 := Aside0.mk hc0_3
 clear hr0_3 hc0_3
 have HB := Aside0.mk (Below.refl w.heap.size w)
 have H : (bluebellref00_HeavyCode.l0 k a1 (a0_0.size : Int) 0 a0_0 l0_1 l0_2 l0_3 a0_4 a0_5) = some r := h
 clear h
 have H' := Aside0.mk H
 clear H
 go_enter Try.func34, Try.ntmps34
 go_wp2_with (first | ((with_reducible refine gate_dst (N := 2) rfl ?_); (try (refine gate_guard (by rfl) ?_; dsimp only)); refine boxev (N := 2) (cs := #[.string a0_0, .slice A0_1 l0_1.length c0_1, .slice A0_2 l0_2.length c0_2, .slice A0_3 l0_3.length c0_3, .int .i64 a0_4, .int .i64 a0_5]) (t := 26) ?_; intro gb101 hg w3 hbox hb; have BK101 := Aside0.mk (hbox); have GW101 := Aside0.mk ((by rw [hg]; exact bsz : w.heap.size ≤ gb101)); have GE101 := Aside0.mk ((by rw [hg]; exact bsz : w.heap.size ≤ gb101)); replace HB := Aside0.mk (bstep hb); clear hb hbox hg; obtain ⟨z4_0, z4_1, z4_2, z4_3, z4_4, z4_5, y4_0, y4_1, y4_2, y4_3, y4_4, y4_5⟩ := cells6 BK101.out))
 repeat (go_quiet (first | ((with_reducible refine gate_dst (N := 2) rfl ?_); (try (refine gate_guard (by rfl) ?_; dsimp only)); refine boxev (N := 2) (cs := #[.string a0_0, .slice A0_1 l0_1.length c0_1, .slice A0_2 l0_2.length c0_2, .slice A0_3 l0_3.length c0_3, .int .i64 a0_4, .int .i64 a0_5]) (t := 26) ?_; intro gb101 hg w3 hbox hb; have BK101 := Aside0.mk (hbox); have GW101 := Aside0.mk ((by rw [hg]; exact bsz : w.heap.size ≤ gb101)); have GE101 := Aside0.mk ((by rw [hg]; exact bsz : w.heap.size ≤ gb101)); replace HB := Aside0.mk (bstep hb); clear hb hbox hg; obtain ⟨z4_0, z4_1, z4_2, z4_3, z4_4, z4_5, y4_0, y4_1, y4_2, y4_3, y4_4, y4_5⟩ := cells6 BK101.out)); try go_wp2_with (first | ((with_reducible refine gate_dst (N := 2) rfl ?_); (try (refine gate_guard (by rfl) ?_; dsimp only)); refine boxev (N := 2) (cs := #[.string a0_0, .slice A0_1 l0_1.length c0_1, .slice A0_2 l0_2.length c0_2, .slice A0_3 l0_3.length c0_3, .int .i64 a0_4, .int .i64 a0_5]) (t := 26) ?_; intro gb101 hg w3 hbox hb; have BK101 := Aside0.mk (hbox); have GW101 := Aside0.mk ((by rw [hg]; exact bsz : w.heap.size ≤ gb101)); have GE101 := Aside0.mk ((by rw [hg]; exact bsz : w.heap.size ≤ gb101)); replace HB := Aside0.mk (bstep hb); clear hb hbox hg; obtain ⟨z4_0, z4_1, z4_2, z4_3, z4_4, z4_5, y4_0, y4_1, y4_2, y4_3, y4_4, y4_5⟩ := cells6 BK101.out)))
 go_loopg [5, 6] k (fun kq v5 v6 w' => ∃ (x5_1 : Int) (x6_1 : Int), v5 = .int .i64 x5_1 ∧ v6 = .int .i64 x6_1 ∧ Aside0 (bluebellref00_HeavyCode.l0 kq a1 x5_1 x6_1 a0_0 l0_1 l0_2 l0_3 a0_4 a0_5 = some r) ∧ Aside0 (kq ≤ k) ∧ Aside0 (w'.heap[gb101]? = some (.cells #[.string a0_0, (.slice A0_1 l0_1.length c0_1), (.slice A0_2 l0_2.length c0_2), (.slice A0_3 l0_3.length c0_3), .int .i64 a0_4, .int .i64 a0_5] 26 (0, 0))) ∧ Aside0 (Below w.heap.size w w'))
 case atStart => exact ⟨((a0_0.size : Int)), (0), wrE, wrE, H', ⟨Nat.le_refl _⟩, ⟨bk⟩, ⟨bw⟩⟩
 case round =>
  clear H'
  clear z4_0 z4_1 z4_2 z4_3 z4_4 z4_5 y4_0 y4_1 y4_2 y4_3 y4_4 y4_5
  obtain ⟨x5_1, x6_1, rfl, rfl, HA, HK1, BK101, HB⟩ := hrel
  cases gk with
  | zero => exact absurd HA.out (by simp [bluebellref00_HeavyCode.l0])
  | succ k1 =>
   have H := HA.out
   clear HA
   simp only [bluebellref00_HeavyCode.l0] at H
   by_cases c5 : x6_1 < (l0_1.length : Int)
   ·rw [if_pos c5] at H
    have c5b0 : decide (x6_1 < (l0_1.length : Int)) = true := decide_eq_true c5
    clear c5
    by_cases c6 : x5_1 ≤ 2000
    ·rw [if_pos c6] at H
     have c6b0 : decide (x5_1 ≤ 2000) = true := decide_eq_true c6
     clear c6
     by_cases c7 : 0 ≤ x6_1
     rotate_left
     ·rw [if_neg c7] at H
      exact absurd H (by simp)
     rw [if_pos c7] at H
     have c7b0 : decide (0 ≤ x6_1) = true := decide_eq_true c7
     clear c7
     have H' := Aside0.mk H
     clear H
     obtain ⟨z8_0, z8_1, z8_2, z8_3, z8_4, z8_5, y8_0, y8_1, y8_2, y8_3, y8_4, y8_5⟩ := cells6 BK101.out
     have p102 : 0 ≤ (x6_1 : Int) := ofd
     have q102 : x6_1 < (l0_1.length : Int) := ofd
     obtain ⟨ad102, A102_2, c102_2, e102, hx102_0, hx102_1, hx102_2, hl102_2, hi102_2⟩ := at_T47 HR0_1.out x6_1 p102 q102
     cases e102
     replace hx102_0 := hxE HB.out hx102_0
     replace hx102_1 := hxE HB.out hx102_1
     replace hx102_2 := hxE HB.out hx102_2
     have HR102_2 := Aside0.mk hi102_2
     have HC102_2 := Aside0.mk hl102_2
     clear hi102_2 hl102_2
     replace p102 := eq_true p102
     replace q102 := eq_true q102
     have p103 : 0 ≤ (x6_1 : Int) := ofd
     have q103 : x6_1 < (l0_1.length : Int) := ofd
     obtain ⟨ad103, A103_2, c103_2, e103, hx103_0, hx103_1, hx103_2, hl103_2, hi103_2⟩ := at_T47 HR0_1.out x6_1 p103 q103
     obtain rfl : ad102 = ad103 := (by injection e103)
     replace hx103_0 := hxE HB.out hx103_0
     replace hx103_1 := hxE HB.out hx103_1
     replace hx103_2 := hxE HB.out hx103_2
     have HR103_2 := Aside0.mk hi103_2
     have HC103_2 := Aside0.mk hl103_2
     clear hi103_2 hl103_2
     replace p103 := eq_true p103
     replace q103 := eq_true q103
     have ea_ := Option.some.inj (hx102_2.symm.trans hx103_2)
     injection ea_ with ea_ en_ ec_
     subst ea_
     subst ec_
     clear en_
     go_wp2
     repeat (go_quiet (fail); try go_wp2)
     go_roundg k1
     case measure => have := HK1.out; omega
     case rel => exact ⟨(wrap64 ((wrap64 ((wrap64 (x5_1 + 1)) + (((rd_T47 l0_1 x6_1).f0).size : Int))) + (((rd_T47 l0_1 x6_1).f2).length : Int))), (wrap64 (x6_1 + 1)), wrE, wrE, H', ⟨by have := HK1.out; omega⟩, ⟨bk⟩, ⟨bw⟩⟩
    ·rw [if_neg c6] at H
     have c6b0 : decide (x5_1 ≤ 2000) = false := decide_eq_false c6
     clear c6
     by_cases c9 : (l0_2.length : Int) > a1
     ·rw [if_pos c9] at H
      have c9b0 : decide (a1 < (l0_2.length : Int)) = true := decide_eq_true c9
      clear c9
      obtain rfl := Option.some.inj H
      obtain ⟨z10_0, z10_1, z10_2, z10_3, z10_4, z10_5, y10_0, y10_1, y10_2, y10_3, y10_4, y10_5⟩ := cells6 BK101.out
      go_wp2
      repeat (go_quiet (fail); try go_wp2)
      go_ret
      exact ⟨erE, bw⟩
     ·rw [if_neg c9] at H
      have c9b0 : decide (a1 < (l0_2.length : Int)) = false := decide_eq_false c9
      clear c9
      by_cases c11 : (l0_3.length : Int) > 400
      ·rw [if_pos c11] at H
       have c11b0 : decide (400 < (l0_3.length : Int)) = true := decide_eq_true c11
       have c11b1 : decide (400 < l0_3.length) = true := decide_eq_true (by omega)
       clear c11
       obtain rfl := Option.some.inj H
       obtain ⟨z12_0, z12_1, z12_2, z12_3, z12_4, z12_5, y12_0, y12_1, y12_2, y12_3, y12_4, y12_5⟩ := cells6 BK101.out
       go_wp2
       repeat (go_quiet (fail); try go_wp2)
       go_ret
       exact ⟨erE, bw⟩
      ·rw [if_neg c11] at H
       have c11b0 : decide (400 < (l0_3.length : Int)) = false := decide_eq_false c11
       have c11b1 : decide (400 < l0_3.length) = false := decide_eq_false (by omega)
       clear c11
       obtain rfl := Option.some.inj H
       obtain ⟨z13_0, z13_1, z13_2, z13_3, z13_4, z13_5, y13_0, y13_1, y13_2, y13_3, y13_4, y13_5⟩ := cells6 BK101.out
       go_wp2
       repeat (go_quiet (fail); try go_wp2)
       go_ret
       exact ⟨erE, bw⟩
   ·rw [if_neg c5] at H
    have c5b0 : decide (x6_1 < (l0_1.length : Int)) = false := decide_eq_false c5
    clear c5
    by_cases c14 : (l0_2.length : Int) > a1
    ·rw [if_pos c14] at H
     have c14b0 : decide (a1 < (l0_2.length : Int)) = true := decide_eq_true c14
     clear c14
     obtain rfl := Option.some.inj H
     obtain ⟨z15_0, z15_1, z15_2, z15_3, z15_4, z15_5, y15_0, y15_1, y15_2, y15_3, y15_4, y15_5⟩ := cells6 BK101.out
     go_wp2
     repeat (go_quiet (fail); try go_wp2)
     go_ret
     exact ⟨erE, bw⟩
    ·rw [if_neg c14] at H
     have c14b0 : decide (a1 < (l0_2.length : Int)) = false := decide_eq_false c14
     clear c14
     by_cases c16 : (l0_3.length : Int) > 400
     ·rw [if_pos c16] at H
      have c16b0 : decide (400 < (l0_3.length : Int)) = true := decide_eq_true c16
      have c16b1 : decide (400 < l0_3.length) = true := decide_eq_true (by omega)
      clear c16
      obtain rfl := Option.some.inj H
      obtain ⟨z17_0, z17_1, z17_2, z17_3, z17_4, z17_5, y17_0, y17_1, y17_2, y17_3, y17_4, y17_5⟩ := cells6 BK101.out
      go_wp2
      repeat (go_quiet (fail); try go_wp2)
      go_ret
      exact ⟨erE, bw⟩
     ·rw [if_neg c16] at H
      have c16b0 : decide (400 < (l0_3.length : Int)) = false := decide_eq_false c16
      have c16b1 : decide (400 < l0_3.length) = false := decide_eq_false (by omega)
      clear c16
      obtain rfl := Option.some.inj H
      obtain ⟨z18_0, z18_1, z18_2, z18_3, z18_4, z18_5, y18_0, y18_1, y18_2, y18_3, y18_4, y18_5⟩ := cells6 BK101.out
      go_wp2
      repeat (go_quiet (fail); try go_wp2)
      go_ret
      exact ⟨erE, bw⟩



/-! ### bluebelllaw06_heavy: function 12 -/
def bluebelllaw06_heavy.f (k : Nat) (a0_0 : ByteArray) (l0_1 : List (S47)) (l0_2 : List (S35)) (l0_3 : List (S68)) (a0_4 : Int) (a0_5 : Int) : Option (Bool) := (bluebellref00_HeavyCode.f k a0_0 l0_1 l0_2 l0_3 a0_4 a0_5 40100).bind fun t105 => (some t105)
theorem bluebelllaw06_heavy.mono : ∀ a0 a1 a2 a3 a4 a5 k, LeO (bluebelllaw06_heavy.f k a0 a1 a2 a3 a4 a5) (bluebelllaw06_heavy.f (k + 1) a0 a1 a2 a3 a4 a5) := by
  intro a0 a1 a2 a3 a4 a5 k
  unfold bluebelllaw06_heavy.f
  repeat' first
      | (with_reducible exact bluebellref00_HeavyCode.mono _ _ _ _ _ _ _ _)
      | (with_reducible exact LeO.refl _)
      | (with_reducible exact LeO.none _)
      | (with_reducible refine LeO.ite ?_ ?_)
      | (with_reducible refine LeO.bind ?_ (fun _ => ?_))
      | exact bluebellref00_HeavyCode.mono _ _ _ _ _ _ _ _
      | exact LeO.none _
      | refine LeO.ite ?_ ?_
      | refine LeO.bind ?_ (fun _ => ?_)
set_option maxHeartbeats 8000000 in
set_option maxRecDepth 100000 in
theorem bluebelllaw06_heavy.calls (k : Nat) (a0_0 : ByteArray) (A0_1 : Option Addr) (c0_1 : Nat) (l0_1 : List (S47)) (A0_2 : Option Addr) (c0_2 : Nat) (l0_2 : List (S35)) (A0_3 : Option Addr) (c0_3 : Nat) (l0_3 : List (S68)) (a0_4 : Int) (a0_5 : Int) (r : Bool) (w : World) (hr0_1 : Kd.C k47 w A0_1 l0_1.length l0_1) (hc0_1 : l0_1.length ≤ c0_1) (hr0_2 : Kd.C k35 w A0_2 l0_2.length l0_2) (hc0_2 : l0_2.length ≤ c0_2) (hr0_3 : Kd.C k68 w A0_3 l0_3.length l0_3) (hc0_3 : l0_3.length ≤ c0_3) (h : bluebelllaw06_heavy.f k a0_0 l0_1 l0_2 l0_3 a0_4 a0_5 = some r) :
    Calls Try.prog 12 #[.agg #[.string a0_0, .slice A0_1 l0_1.length c0_1, .slice A0_2 l0_2.length c0_2, .slice A0_3 l0_3.length c0_3, .int .i64 a0_4, .int .i64 a0_5]] w fun e w' => e = .returned (.bool r) ∧ Below w.heap.size w w' := by
  have hu26 := Try.underlying26
  have HR0_1 := Aside0.mk hr0_1
  have HC0_1 := Aside0.mk hc0_1
  clear hr0_1 hc0_1
  have HR0_2 := Aside0.mk hr0_2
  have HC0_2 := Aside0.mk hc0_2
  clear hr0_2 hc0_2
  have HR0_3 := Aside0.mk hr0_3
  have HC0_3 := Aside0.mk hc0_3
  clear hr0_3 hc0_3
  have HB := Aside0.mk (Below.refl w.heap.size w)
  have H : ((bluebellref00_HeavyCode.f k a0_0 l0_1 l0_2 l0_3 a0_4 a0_5 40100).bind fun t105 => (some t105)) = some r := h
  clear h
  replace H := Option.bind_eq_some_iff.mp H
  obtain ⟨t105, A20, H⟩ := H
  replace H : (some t105) = some r := H
  have A2 := Aside0.mk A20
  clear A20
  obtain rfl := Option.some.inj H
  go_enter Try.func12, Try.ntmps12
  go_wp2_with (first | ((with_reducible refine gate_dst (N := 1) rfl ?_); refine box_event ?hg (N := 1) ?hd (cs := #[.string a0_0, .slice A0_1 l0_1.length c0_1, .slice A0_2 l0_2.length c0_2, .slice A0_3 l0_3.length c0_3, .int .i64 a0_4, .int .i64 a0_5]) (t := 26) ?hr ?_; (case hd => rfl); (case hg => rfl); (case hr => first | (go_simp; done) | (go_simp; rfl)); intro gb104 hg w3 hbox hb; have n0_ := Aside0.mk (below_step (by repeat (first | (with_reducible first | exact HB.out | apply below_alloc | apply pw_below_drewN | apply below_drew1) | exact HB.out)) hb); have n1_ := Aside0.mk (hbox); have n2_ := Aside0.mk ((by rw [hg]; exact (below_size (by repeat (first | (with_reducible first | exact HB.out | apply below_alloc | apply pw_below_drewN | apply below_drew1) | exact HB.out))) : w.heap.size ≤ gb104)); have n3_ := Aside0.mk ((by rw [hg]; exact (below_size (by repeat (first | (with_reducible first | exact HB.out | apply below_alloc | apply pw_below_drewN | apply below_drew1) | exact HB.out))) : w.heap.size ≤ gb104)); clear HB; have HB := n0_; have BK104 := n1_; have GW104 := n2_; have GE104 := n3_; clear n0_ n1_ n2_ n3_; clear hb hbox hg; have hcz4_0 : w3.cell? ⟨gb104, 0, none⟩ = some (.string a0_0) := (blk_cell BK104.out 0).trans rfl; have hcz4_1 : w3.cell? ⟨gb104, 1, none⟩ = some (.slice A0_1 l0_1.length c0_1) := (blk_cell BK104.out 1).trans rfl; have hcz4_2 : w3.cell? ⟨gb104, 2, none⟩ = some (.slice A0_2 l0_2.length c0_2) := (blk_cell BK104.out 2).trans rfl; have hcz4_3 : w3.cell? ⟨gb104, 3, none⟩ = some (.slice A0_3 l0_3.length c0_3) := (blk_cell BK104.out 3).trans rfl; have hcz4_4 : w3.cell? ⟨gb104, 4, none⟩ = some (.int .i64 a0_4) := (blk_cell BK104.out 4).trans rfl; have hcz4_5 : w3.cell? ⟨gb104, 5, none⟩ = some (.int .i64 a0_5) := (blk_cell BK104.out 5).trans rfl; have hfz4_0 := blk_frozen BK104.out 0; have hfz4_1 := blk_frozen BK104.out 1; have hfz4_2 := blk_frozen BK104.out 2; have hfz4_3 := blk_frozen BK104.out 3; have hfz4_4 := blk_frozen BK104.out 4; have hfz4_5 := blk_frozen BK104.out 5) | ((with_reducible refine gate_callee (f := 34) rfl ?_); refine goesL_ (some 4) rfl rfl Try.func34 (by kernel_rfl) rfl #[.agg #[.string a0_0, .slice A0_1 l0_1.length c0_1, .slice A0_2 l0_2.length c0_2, .slice A0_3 l0_3.length c0_3, .int .i64 a0_4, .int .i64 a0_5], .int .i64 40100] rfl (by (try simp only [List.map_toArray, List.map_cons, List.map_nil]); first | done | rfl | (simp only [List.length_drop, List.length_take]; rfl)) ?_; (with_reducible refine (bluebellref00_HeavyCode.calls k a0_0 _ _ l0_1 _ _ l0_2 _ _ l0_3 a0_4 a0_5 40100 t105 _ ?side1 ?side2 ?side3 ?side4 ?side5 ?side6 A2.out).mono ?_); (case side1 => repeat (first | exact (Kd.C_below HR0_1.out HB.out) | (with_reducible refine Kd.C_alloc ?_ _) | (with_reducible refine Kd.C_drewN ?_ _) | (with_reducible refine Kd.C_drew ?_))); (case side2 => exact HC0_1.out); (case side3 => repeat (first | exact (Kd.C_below HR0_2.out HB.out) | (with_reducible refine Kd.C_alloc ?_ _) | (with_reducible refine Kd.C_drewN ?_ _) | (with_reducible refine Kd.C_drew ?_))); (case side4 => exact HC0_2.out); (case side5 => repeat (first | exact (Kd.C_below HR0_3.out HB.out) | (with_reducible refine Kd.C_alloc ?_ _) | (with_reducible refine Kd.C_drewN ?_ _) | (with_reducible refine Kd.C_drew ?_))); (case side6 => exact HC0_3.out); rintro e w5 ⟨rfl, hb⟩; refine ⟨_, rfl, ?_⟩; have n0_ := Aside0.mk (blk_below (g := gb104) (o := .cells #[.string a0_0, .slice A0_1 l0_1.length c0_1, .slice A0_2 l0_2.length c0_2, .slice A0_3 l0_3.length c0_3, .int .i64 a0_4, .int .i64 a0_5] 26 (0, 0)) (by (with_reducible repeat (first | refine blk_drewN ?_ _ | refine blk_drew ?_ | refine blk_alloc ?_ _)); exact BK104.out) hb); have n1_ := Aside0.mk (below_step (by repeat (first | (with_reducible first | exact HB.out | apply below_alloc | apply pw_below_drewN | apply below_drew1 | refine below_set ?_ GE104.out) | exact HB.out)) hb); clear BK104; clear HB; have BK104 := n0_; have HB := n1_; clear n0_ n1_; (try clear hb); (try clear hb2); (try clear hk); (try clear hi)))
  go_ret
  exact ⟨by first | rfl | (simp [errW_none, errW_some] <;> rfl) | (simp [*, errW_none, errW_some] <;> rfl), by repeat (first | (with_reducible first | exact HB.out | apply below_alloc | apply pw_below_drewN | apply below_drew1 | refine below_set ?_ GE104.out) | exact HB.out)⟩



/-! ### bluebellref06_in: function 71 -/
def bluebellref06_in.f (a0 : Int) (a1 : Int) (a2 : Int) : Option (Bool) := if a0 ≥ a1 then (some (decide (a0 ≤ a2))) else (some false)
set_option maxHeartbeats 8000000 in
set_option maxRecDepth 100000 in
theorem bluebellref06_in.calls (a0 : Int) (a1 : Int) (a2 : Int) (r : Bool) (w : World) (h : bluebellref06_in.f a0 a1 a2 = some r) :
    Calls Try.prog 71 #[.int .i64 a0, .int .i64 a1, .int .i64 a2] w fun e w' => e = .returned (.bool r) ∧ Drawn0 w w' := by
  have H : (if a0 ≥ a1 then (some (decide (a0 ≤ a2))) else (some false)) = some r := h
  clear h
  by_cases c4 : a0 ≥ a1
  · rw [if_pos c4] at H
    have c4b0 : decide (a1 ≤ a0) = true := decide_eq_true c4
    clear c4
    obtain rfl := Option.some.inj H
    go_enter Try.func71, Try.ntmps71
    go_wp2
    go_ret
    exact ⟨by first | rfl | (simp; done) | (simp [*]; done), by repeat (first | exact Drawn0.refl _ | apply Drawn0.step)⟩
  · rw [if_neg c4] at H
    have c4b0 : decide (a1 ≤ a0) = false := decide_eq_false c4
    clear c4
    obtain rfl := Option.some.inj H
    go_enter Try.func71, Try.ntmps71
    go_wp2
    go_ret
    exact ⟨by first | rfl | (simp; done) | (simp [*]; done), by repeat (first | exact Drawn0.refl _ | apply Drawn0.step)⟩



/-! ### bluebellref06_numbers: function 44 -/
mutual
def bluebellref06_numbers.j0 : Nat → Bool → ByteArray → List (S47) → List (S35) → List (S68) → Int → Int → Int → Int → Int → Option (Bool)
 | 0, _, _, _, _, _, _, _, _, _, _ => none
 | k + 1, x20, p0, p1, p2, p3, p4, p5, q0, q1, q2 => if x20 = true then (some false) else (if q0 = 24 then (bluebellref06_numbers.j1 k false p0 p1 p2 p3 p4 p5 q0 q1 q2) else (if q0 = 29 then (bluebellref06_numbers.j1 k false p0 p1 p2 p3 p4 p5 q0 q1 q2) else (if q0 = 30 then (bluebellref06_numbers.j1 k false p0 p1 p2 p3 p4 p5 q0 q1 q2) else (bluebellref06_numbers.j1 k (q2 != 0) p0 p1 p2 p3 p4 p5 q0 q1 q2))))
def bluebellref06_numbers.j1 : Nat → Bool → ByteArray → List (S47) → List (S35) → List (S68) → Int → Int → Int → Int → Int → Option (Bool)
 | 0, _, _, _, _, _, _, _, _, _, _ => none
 | k + 1, x38, p0, p1, p2, p3, p4, p5, q0, q1, q2 => if x38 = true then (some false) else (if q0 = 1 then (some true) else (if q0 = 2 then (bluebellref06_numbers.j2 k q0 (q0 == 2) p0 p1 p2 p3 p4 p5 q0 q1 q2) else (if q0 = 3 then (bluebellref06_numbers.j2 k q0 (q0 == 3) p0 p1 p2 p3 p4 p5 q0 q1 q2) else (if q0 = 4 then (bluebellref06_numbers.j2 k q0 (q0 == 4) p0 p1 p2 p3 p4 p5 q0 q1 q2) else (if q0 = 23 then (bluebellref06_numbers.j2 k q0 (q0 == 23) p0 p1 p2 p3 p4 p5 q0 q1 q2) else (if q0 = 18 then (bluebellref06_numbers.j2 k q0 (q0 == 18) p0 p1 p2 p3 p4 p5 q0 q1 q2) else (bluebellref06_numbers.j2 k q0 (q0 == 28) p0 p1 p2 p3 p4 p5 q0 q1 q2)))))))
def bluebellref06_numbers.j2 : Nat → Int → Bool → ByteArray → List (S47) → List (S35) → List (S68) → Int → Int → Int → Int → Int → Option (Bool)
 | 0, _, _, _, _, _, _, _, _, _, _, _ => none
 | k + 1, x40, x43, p0, p1, p2, p3, p4, p5, q0, q1, q2 => if x43 = true then ((bluebellref06_in.f q1 0 4000).bind fun t381 => (some t381)) else (if x40 = 5 then (bluebellref06_numbers.j3 k x40 (x40 == 5) p0 p1 p2 p3 p4 p5 q0 q1 q2) else (if x40 = 6 then (bluebellref06_numbers.j3 k x40 (x40 == 6) p0 p1 p2 p3 p4 p5 q0 q1 q2) else (bluebellref06_numbers.j3 k x40 (x40 == 7) p0 p1 p2 p3 p4 p5 q0 q1 q2)))
def bluebellref06_numbers.j3 : Nat → Int → Bool → ByteArray → List (S47) → List (S35) → List (S68) → Int → Int → Int → Int → Int → Option (Bool)
 | 0, _, _, _, _, _, _, _, _, _, _, _ => none
 | k + 1, x40, x53, p0, p1, p2, p3, p4, p5, q0, q1, q2 => if x53 = true then ((bluebellref06_in.f q1 0 199).bind fun t382 => (some t382)) else (if x40 = 8 then (bluebellref06_numbers.j4 k x40 (x40 == 8) p0 p1 p2 p3 p4 p5 q0 q1 q2) else (if x40 = 9 then (bluebellref06_numbers.j4 k x40 (x40 == 9) p0 p1 p2 p3 p4 p5 q0 q1 q2) else (bluebellref06_numbers.j4 k x40 (x40 == 10) p0 p1 p2 p3 p4 p5 q0 q1 q2)))
def bluebellref06_numbers.j4 : Nat → Int → Bool → ByteArray → List (S47) → List (S35) → List (S68) → Int → Int → Int → Int → Int → Option (Bool)
 | 0, _, _, _, _, _, _, _, _, _, _, _ => none
 | k + 1, x40, x60, p0, p1, p2, p3, p4, p5, q0, q1, q2 => if x60 = true then ((bluebellref06_in.f q1 0 (wrap64 ((p1.length : Int) - 1))).bind fun t383 => (some t383)) else (if x40 = 11 then ((bluebellref06_in.f q1 1 p4).bind fun t384 => (some t384)) else (if x40 = 16 then ((bluebellref06_in.f q1 1 17).bind fun t385 => (some t385)) else (if x40 = 17 then (if q1 = 18 then (some true) else (some (q1 == 19))) else (if x40 = 19 then (bluebellref06_numbers.j5 k x40 (x40 == 19) p0 p1 p2 p3 p4 p5 q0 q1 q2) else (if x40 = 20 then (bluebellref06_numbers.j5 k x40 (x40 == 20) p0 p1 p2 p3 p4 p5 q0 q1 q2) else (if x40 = 21 then (bluebellref06_numbers.j5 k x40 (x40 == 21) p0 p1 p2 p3 p4 p5 q0 q1 q2) else (if x40 = 22 then (bluebellref06_numbers.j5 k x40 (x40 == 22) p0 p1 p2 p3 p4 p5 q0 q1 q2) else (bluebellref06_numbers.j5 k x40 (x40 == 27) p0 p1 p2 p3 p4 p5 q0 q1 q2))))))))
def bluebellref06_numbers.j5 : Nat → Int → Bool → ByteArray → List (S47) → List (S35) → List (S68) → Int → Int → Int → Int → Int → Option (Bool)
 | 0, _, _, _, _, _, _, _, _, _, _, _ => none
 | k + 1, x40, x93, p0, p1, p2, p3, p4, p5, q0, q1, q2 => if x93 = true then ((bluebellref06_in.f q1 1 p5).bind fun t386 => (some t386)) else (if x40 = 24 then ((bluebellref06_in.f q1 1 p4).bind fun t387 => (if t387 = true then ((bluebellref06_in.f q2 0 8).bind fun t388 => (some t388)) else (some false))) else (if x40 = 29 then ((bluebellref06_in.f q1 1 p5).bind fun t389 => (if t389 = true then ((bluebellref06_in.f q2 0 1000).bind fun t390 => (some t390)) else (some false))) else (if x40 = 30 then ((bluebellref06_in.f q2 1 p5).bind fun t391 => (some t391)) else (some (q1 == 0)))))
end
def bluebellref06_numbers.f (k : Nat) (a0_0 : ByteArray) (l0_1 : List (S47)) (l0_2 : List (S35)) (l0_3 : List (S68)) (a0_4 : Int) (a0_5 : Int) (a1_0 : Int) (a1_1 : Int) (a1_2 : Int) : Option (Bool) := (bluebellref06_in.f a1_0 1 30).bind fun t378 => (if t378 = true then ((bluebellref06_in.f a1_1 (-2147483648) 2147483647).bind fun t379 => (if t379 = true then ((bluebellref06_in.f a1_2 (-2147483648) 2147483647).bind fun t380 => (bluebellref06_numbers.j0 k (!t380) a0_0 l0_1 l0_2 l0_3 a0_4 a0_5 a1_0 a1_1 a1_2)) else (bluebellref06_numbers.j0 k true a0_0 l0_1 l0_2 l0_3 a0_4 a0_5 a1_0 a1_1 a1_2))) else (bluebellref06_numbers.j0 k true a0_0 l0_1 l0_2 l0_3 a0_4 a0_5 a1_0 a1_1 a1_2))
theorem bluebellref06_numbers.mono_l : ∀ k, (∀ y0 y1 y2 y3 y4 y5 y6 y7 y8 y9, LeO (bluebellref06_numbers.j0 k y0 y1 y2 y3 y4 y5 y6 y7 y8 y9) (bluebellref06_numbers.j0 (k + 1) y0 y1 y2 y3 y4 y5 y6 y7 y8 y9)) ∧ (∀ y0 y1 y2 y3 y4 y5 y6 y7 y8 y9, LeO (bluebellref06_numbers.j1 k y0 y1 y2 y3 y4 y5 y6 y7 y8 y9) (bluebellref06_numbers.j1 (k + 1) y0 y1 y2 y3 y4 y5 y6 y7 y8 y9)) ∧ (∀ y0 y1 y2 y3 y4 y5 y6 y7 y8 y9 y10, LeO (bluebellref06_numbers.j2 k y0 y1 y2 y3 y4 y5 y6 y7 y8 y9 y10) (bluebellref06_numbers.j2 (k + 1) y0 y1 y2 y3 y4 y5 y6 y7 y8 y9 y10)) ∧ (∀ y0 y1 y2 y3 y4 y5 y6 y7 y8 y9 y10, LeO (bluebellref06_numbers.j3 k y0 y1 y2 y3 y4 y5 y6 y7 y8 y9 y10) (bluebellref06_numbers.j3 (k + 1) y0 y1 y2 y3 y4 y5 y6 y7 y8 y9 y10)) ∧ (∀ y0 y1 y2 y3 y4 y5 y6 y7 y8 y9 y10, LeO (bluebellref06_numbers.j4 k y0 y1 y2 y3 y4 y5 y6 y7 y8 y9 y10) (bluebellref06_numbers.j4 (k + 1) y0 y1 y2 y3 y4 y5 y6 y7 y8 y9 y10)) ∧ (∀ y0 y1 y2 y3 y4 y5 y6 y7 y8 y9 y10, LeO (bluebellref06_numbers.j5 k y0 y1 y2 y3 y4 y5 y6 y7 y8 y9 y10) (bluebellref06_numbers.j5 (k + 1) y0 y1 y2 y3 y4 y5 y6 y7 y8 y9 y10))
 | 0 => ⟨fun _ _ _ _ _ _ _ _ _ _ r h => by simp [bluebellref06_numbers.j0] at h, fun _ _ _ _ _ _ _ _ _ _ r h => by simp [bluebellref06_numbers.j1] at h, fun _ _ _ _ _ _ _ _ _ _ _ r h => by simp [bluebellref06_numbers.j2] at h, fun _ _ _ _ _ _ _ _ _ _ _ r h => by simp [bluebellref06_numbers.j3] at h, fun _ _ _ _ _ _ _ _ _ _ _ r h => by simp [bluebellref06_numbers.j4] at h, fun _ _ _ _ _ _ _ _ _ _ _ r h => by simp [bluebellref06_numbers.j5] at h⟩
 | k + 1 => by
  obtain ⟨ih0, ih1, ih2, ih3, ih4, ih5⟩ := bluebellref06_numbers.mono_l k
  refine ⟨?_, ?_, ?_, ?_, ?_, ?_⟩
  ·intro y0 y1 y2 y3 y4 y5 y6 y7 y8 y9
   unfold bluebellref06_numbers.j0
   repeat' first
   | (with_reducible exact ih0 _ _ _ _ _ _ _ _ _ _)
   | (with_reducible exact ih1 _ _ _ _ _ _ _ _ _ _)
   | (with_reducible exact ih2 _ _ _ _ _ _ _ _ _ _ _)
   | (with_reducible exact ih3 _ _ _ _ _ _ _ _ _ _ _)
   | (with_reducible exact ih4 _ _ _ _ _ _ _ _ _ _ _)
   | (with_reducible exact ih5 _ _ _ _ _ _ _ _ _ _ _)
   | (with_reducible exact LeO.refl _)
   | (with_reducible exact LeO.none _)
   | (with_reducible refine LeO.ite ?_ ?_)
   | (with_reducible refine LeO.bind ?_ (fun _ => ?_))
   | exact ih0 _ _ _ _ _ _ _ _ _ _
   | exact ih1 _ _ _ _ _ _ _ _ _ _
   | exact ih2 _ _ _ _ _ _ _ _ _ _ _
   | exact ih3 _ _ _ _ _ _ _ _ _ _ _
   | exact ih4 _ _ _ _ _ _ _ _ _ _ _
   | exact ih5 _ _ _ _ _ _ _ _ _ _ _
   | exact LeO.none _
   | refine LeO.ite ?_ ?_
   | refine LeO.bind ?_ (fun _ => ?_)
  ·intro y0 y1 y2 y3 y4 y5 y6 y7 y8 y9
   unfold bluebellref06_numbers.j1
   repeat' first
   | (with_reducible exact ih0 _ _ _ _ _ _ _ _ _ _)
   | (with_reducible exact ih1 _ _ _ _ _ _ _ _ _ _)
   | (with_reducible exact ih2 _ _ _ _ _ _ _ _ _ _ _)
   | (with_reducible exact ih3 _ _ _ _ _ _ _ _ _ _ _)
   | (with_reducible exact ih4 _ _ _ _ _ _ _ _ _ _ _)
   | (with_reducible exact ih5 _ _ _ _ _ _ _ _ _ _ _)
   | (with_reducible exact LeO.refl _)
   | (with_reducible exact LeO.none _)
   | (with_reducible refine LeO.ite ?_ ?_)
   | (with_reducible refine LeO.bind ?_ (fun _ => ?_))
   | exact ih0 _ _ _ _ _ _ _ _ _ _
   | exact ih1 _ _ _ _ _ _ _ _ _ _
   | exact ih2 _ _ _ _ _ _ _ _ _ _ _
   | exact ih3 _ _ _ _ _ _ _ _ _ _ _
   | exact ih4 _ _ _ _ _ _ _ _ _ _ _
   | exact ih5 _ _ _ _ _ _ _ _ _ _ _
   | exact LeO.none _
   | refine LeO.ite ?_ ?_
   | refine LeO.bind ?_ (fun _ => ?_)
  ·intro y0 y1 y2 y3 y4 y5 y6 y7 y8 y9 y10
   unfold bluebellref06_numbers.j2
   repeat' first
   | (with_reducible exact ih0 _ _ _ _ _ _ _ _ _ _)
   | (with_reducible exact ih1 _ _ _ _ _ _ _ _ _ _)
   | (with_reducible exact ih2 _ _ _ _ _ _ _ _ _ _ _)
   | (with_reducible exact ih3 _ _ _ _ _ _ _ _ _ _ _)
   | (with_reducible exact ih4 _ _ _ _ _ _ _ _ _ _ _)
   | (with_reducible exact ih5 _ _ _ _ _ _ _ _ _ _ _)
   | (with_reducible exact LeO.refl _)
   | (with_reducible exact LeO.none _)
   | (with_reducible refine LeO.ite ?_ ?_)
   | (with_reducible refine LeO.bind ?_ (fun _ => ?_))
   | exact ih0 _ _ _ _ _ _ _ _ _ _
   | exact ih1 _ _ _ _ _ _ _ _ _ _
   | exact ih2 _ _ _ _ _ _ _ _ _ _ _
   | exact ih3 _ _ _ _ _ _ _ _ _ _ _
   | exact ih4 _ _ _ _ _ _ _ _ _ _ _
   | exact ih5 _ _ _ _ _ _ _ _ _ _ _
   | exact LeO.none _
   | refine LeO.ite ?_ ?_
   | refine LeO.bind ?_ (fun _ => ?_)
  ·intro y0 y1 y2 y3 y4 y5 y6 y7 y8 y9 y10
   unfold bluebellref06_numbers.j3
   repeat' first
   | (with_reducible exact ih0 _ _ _ _ _ _ _ _ _ _)
   | (with_reducible exact ih1 _ _ _ _ _ _ _ _ _ _)
   | (with_reducible exact ih2 _ _ _ _ _ _ _ _ _ _ _)
   | (with_reducible exact ih3 _ _ _ _ _ _ _ _ _ _ _)
   | (with_reducible exact ih4 _ _ _ _ _ _ _ _ _ _ _)
   | (with_reducible exact ih5 _ _ _ _ _ _ _ _ _ _ _)
   | (with_reducible exact LeO.refl _)
   | (with_reducible exact LeO.none _)
   | (with_reducible refine LeO.ite ?_ ?_)
   | (with_reducible refine LeO.bind ?_ (fun _ => ?_))
   | exact ih0 _ _ _ _ _ _ _ _ _ _
   | exact ih1 _ _ _ _ _ _ _ _ _ _
   | exact ih2 _ _ _ _ _ _ _ _ _ _ _
   | exact ih3 _ _ _ _ _ _ _ _ _ _ _
   | exact ih4 _ _ _ _ _ _ _ _ _ _ _
   | exact ih5 _ _ _ _ _ _ _ _ _ _ _
   | exact LeO.none _
   | refine LeO.ite ?_ ?_
   | refine LeO.bind ?_ (fun _ => ?_)
  ·intro y0 y1 y2 y3 y4 y5 y6 y7 y8 y9 y10
   unfold bluebellref06_numbers.j4
   repeat' first
   | (with_reducible exact ih0 _ _ _ _ _ _ _ _ _ _)
   | (with_reducible exact ih1 _ _ _ _ _ _ _ _ _ _)
   | (with_reducible exact ih2 _ _ _ _ _ _ _ _ _ _ _)
   | (with_reducible exact ih3 _ _ _ _ _ _ _ _ _ _ _)
   | (with_reducible exact ih4 _ _ _ _ _ _ _ _ _ _ _)
   | (with_reducible exact ih5 _ _ _ _ _ _ _ _ _ _ _)
   | (with_reducible exact LeO.refl _)
   | (with_reducible exact LeO.none _)
   | (with_reducible refine LeO.ite ?_ ?_)
   | (with_reducible refine LeO.bind ?_ (fun _ => ?_))
   | exact ih0 _ _ _ _ _ _ _ _ _ _
   | exact ih1 _ _ _ _ _ _ _ _ _ _
   | exact ih2 _ _ _ _ _ _ _ _ _ _ _
   | exact ih3 _ _ _ _ _ _ _ _ _ _ _
   | exact ih4 _ _ _ _ _ _ _ _ _ _ _
   | exact ih5 _ _ _ _ _ _ _ _ _ _ _
   | exact LeO.none _
   | refine LeO.ite ?_ ?_
   | refine LeO.bind ?_ (fun _ => ?_)
  ·intro y0 y1 y2 y3 y4 y5 y6 y7 y8 y9 y10
   unfold bluebellref06_numbers.j5
   repeat' first
   | (with_reducible exact ih0 _ _ _ _ _ _ _ _ _ _)
   | (with_reducible exact ih1 _ _ _ _ _ _ _ _ _ _)
   | (with_reducible exact ih2 _ _ _ _ _ _ _ _ _ _ _)
   | (with_reducible exact ih3 _ _ _ _ _ _ _ _ _ _ _)
   | (with_reducible exact ih4 _ _ _ _ _ _ _ _ _ _ _)
   | (with_reducible exact ih5 _ _ _ _ _ _ _ _ _ _ _)
   | (with_reducible exact LeO.refl _)
   | (with_reducible exact LeO.none _)
   | (with_reducible refine LeO.ite ?_ ?_)
   | (with_reducible refine LeO.bind ?_ (fun _ => ?_))
   | exact ih0 _ _ _ _ _ _ _ _ _ _
   | exact ih1 _ _ _ _ _ _ _ _ _ _
   | exact ih2 _ _ _ _ _ _ _ _ _ _ _
   | exact ih3 _ _ _ _ _ _ _ _ _ _ _
   | exact ih4 _ _ _ _ _ _ _ _ _ _ _
   | exact ih5 _ _ _ _ _ _ _ _ _ _ _
   | exact LeO.none _
   | refine LeO.ite ?_ ?_
   | refine LeO.bind ?_ (fun _ => ?_)
theorem bluebellref06_numbers.mono : ∀ a0 a1 a2 a3 a4 a5 a6 a7 a8 k, LeO (bluebellref06_numbers.f k a0 a1 a2 a3 a4 a5 a6 a7 a8) (bluebellref06_numbers.f (k + 1) a0 a1 a2 a3 a4 a5 a6 a7 a8) := by
 intro a0 a1 a2 a3 a4 a5 a6 a7 a8 k
 obtain ⟨ih0, ih1, ih2, ih3, ih4, ih5⟩ := bluebellref06_numbers.mono_l k
 unfold bluebellref06_numbers.f
 repeat' first
   | (with_reducible exact ih0 _ _ _ _ _ _ _ _ _ _)
   | (with_reducible exact ih1 _ _ _ _ _ _ _ _ _ _)
   | (with_reducible exact ih2 _ _ _ _ _ _ _ _ _ _ _)
   | (with_reducible exact ih3 _ _ _ _ _ _ _ _ _ _ _)
   | (with_reducible exact ih4 _ _ _ _ _ _ _ _ _ _ _)
   | (with_reducible exact ih5 _ _ _ _ _ _ _ _ _ _ _)
   | (with_reducible exact LeO.refl _)
   | (with_reducible exact LeO.none _)
   | (with_reducible refine LeO.ite ?_ ?_)
   | (with_reducible refine LeO.bind ?_ (fun _ => ?_))
   | exact ih0 _ _ _ _ _ _ _ _ _ _
   | exact ih1 _ _ _ _ _ _ _ _ _ _
   | exact ih2 _ _ _ _ _ _ _ _ _ _ _
   | exact ih3 _ _ _ _ _ _ _ _ _ _ _
   | exact ih4 _ _ _ _ _ _ _ _ _ _ _
   | exact ih5 _ _ _ _ _ _ _ _ _ _ _
   | exact LeO.none _
   | refine LeO.ite ?_ ?_
   | refine LeO.bind ?_ (fun _ => ?_)
set_option maxHeartbeats 8000000 in
set_option maxRecDepth 100000 in
theorem bluebellref06_numbers.calls (k : Nat) (a0_0 : ByteArray) (A0_1 : Option Addr) (c0_1 : Nat) (l0_1 : List (S47)) (A0_2 : Option Addr) (c0_2 : Nat) (l0_2 : List (S35)) (A0_3 : Option Addr) (c0_3 : Nat) (l0_3 : List (S68)) (a0_4 : Int) (a0_5 : Int) (a1_0 : Int) (a1_1 : Int) (a1_2 : Int) (r : Bool) (w : World) (hr0_1 : Kd.C k47 w A0_1 l0_1.length l0_1) (hc0_1 : l0_1.length ≤ c0_1) (hr0_2 : Kd.C k35 w A0_2 l0_2.length l0_2) (hc0_2 : l0_2.length ≤ c0_2) (hr0_3 : Kd.C k68 w A0_3 l0_3.length l0_3) (hc0_3 : l0_3.length ≤ c0_3) (h : bluebellref06_numbers.f k a0_0 l0_1 l0_2 l0_3 a0_4 a0_5 a1_0 a1_1 a1_2 = some r) :
  Calls Try.prog 44 #[.agg #[.string a0_0, .slice A0_1 l0_1.length c0_1, .slice A0_2 l0_2.length c0_2, .slice A0_3 l0_3.length c0_3, .int .i64 a0_4, .int .i64 a0_5], .agg #[.int .i64 a1_0, .int .i64 a1_1, .int .i64 a1_2]] w fun e w' => e = .returned (.bool r) ∧ Below w.heap.size w w' := by
 have hu26 := Try.underlying26
 have hu35 := Try.underlying35
 have HR0_1 := Aside0.mk hr0_1
 have HC0_1 := Aside0.mk hc0_1
 clear hr0_1 hc0_1
 have HR0_2 := Aside0.mk hr0_2
 have HC0_2 := Aside0.mk hc0_2
 clear hr0_2 hc0_2
 have HR0_3 := Aside0.mk hr0_3
 have HC0_3 := Aside0.mk hc0_3
 clear hr0_3 hc0_3
 have HB := Aside0.mk (Below.refl w.heap.size w)
 have H : ((bluebellref06_in.f a1_0 1 30).bind fun t378 => (if t378 = true then ((bluebellref06_in.f a1_1 (-2147483648) 2147483647).bind fun t379 => (if t379 = true then ((bluebellref06_in.f a1_2 (-2147483648) 2147483647).bind fun t380 => (bluebellref06_numbers.j0 k (!t380) a0_0 l0_1 l0_2 l0_3 a0_4 a0_5 a1_0 a1_1 a1_2)) else (bluebellref06_numbers.j0 k true a0_0 l0_1 l0_2 l0_3 a0_4 a0_5 a1_0 a1_1 a1_2))) else (bluebellref06_numbers.j0 k true a0_0 l0_1 l0_2 l0_3 a0_4 a0_5 a1_0 a1_1 a1_2))) = some r := h
 clear h
 have HC3 := Aside0.mk H
 clear H
 go_enter Try.func44, Try.ntmps44
 go_upto_region 1 with (first | ((with_reducible refine gate_dst (N := 2) rfl ?_); refine boxev (N := 2) (cs := #[.string a0_0, .slice A0_1 l0_1.length c0_1, .slice A0_2 l0_2.length c0_2, .slice A0_3 l0_3.length c0_3, .int .i64 a0_4, .int .i64 a0_5]) (t := 26) ?_; intro gb376 hg w4 hbox hb; have BK376 := Aside0.mk (hbox); have GW376 := Aside0.mk ((by rw [hg]; exact bsz : w.heap.size ≤ gb376)); have GE376 := Aside0.mk ((by rw [hg]; exact bsz : w.heap.size ≤ gb376)); replace HB := Aside0.mk (bstep hb); clear hb hbox hg) | ((with_reducible refine gate_dst (N := 3) rfl ?_); refine boxev (N := 3) (cs := #[.int .i64 a1_0, .int .i64 a1_1, .int .i64 a1_2]) (t := 35) ?_; intro gb377 hg w5 hbox hb; have BK377 := Aside0.mk (hbox); have GW377 := Aside0.mk ((by rw [hg]; exact bsz : w.heap.size ≤ gb377)); have GE377 := Aside0.mk ((by rw [hg]; exact bsz : w.heap.size ≤ gb377)); have NB376_377 := Aside0.mk ((by rw [hg]; exact Nat.ne_of_lt (bkl (g := gb376)) : gb376 ≠ gb377)); have NB377_376 := Aside0.mk ((by rw [hg]; exact Nat.ne_of_gt (bkl (g := gb376)) : gb377 ≠ gb376)); replace BK376 := Aside0.mk (bkb (g := gb376) hb); replace HB := Aside0.mk (bstep hb); clear hb hbox hg))
 (try simp only [Act.put, List.setIfInBounds_toArray, List.set_cons_zero, List.set_cons_succ])
 go_cut [20] (fun v20 wc => ∃ (kq : Nat) (x20_2 : Bool), v20 = .bool x20_2 ∧ Aside0 (bluebellref06_numbers.j0 kq x20_2 a0_0 l0_1 l0_2 l0_3 a0_4 a0_5 a1_0 a1_1 a1_2 = some r) ∧ Aside0 (kq ≤ k) ∧ Aside0 (wc.heap[gb376]? = some (.cells #[.string a0_0, (.slice A0_1 l0_1.length c0_1), (.slice A0_2 l0_2.length c0_2), (.slice A0_3 l0_3.length c0_3), .int .i64 a0_4, .int .i64 a0_5] 26 (0, 0))) ∧ Aside0 (wc.heap[gb377]? = some (.cells #[.int .i64 a1_0, .int .i64 a1_1, .int .i64 a1_2] 35 (0, 0))) ∧ Aside0 (Below w.heap.size w wc))
 case first =>
  have H := HC3.out
  clear HC3
  replace H := Option.bind_eq_some_iff.mp H
  obtain ⟨t378, A60, H⟩ := H
  replace H : (if t378 = true then ((bluebellref06_in.f a1_1 (-2147483648) 2147483647).bind fun t379 => (if t379 = true then ((bluebellref06_in.f a1_2 (-2147483648) 2147483647).bind fun t380 => (bluebellref06_numbers.j0 k (!t380) a0_0 l0_1 l0_2 l0_3 a0_4 a0_5 a1_0 a1_1 a1_2)) else (bluebellref06_numbers.j0 k true a0_0 l0_1 l0_2 l0_3 a0_4 a0_5 a1_0 a1_1 a1_2))) else (bluebellref06_numbers.j0 k true a0_0 l0_1 l0_2 l0_3 a0_4 a0_5 a1_0 a1_1 a1_2)) = some r := H
  have A6 := Aside0.mk A60
  clear A60
  by_cases c7 : t378 = true
  ·subst c7
   have H1 : ((bluebellref06_in.f a1_1 (-2147483648) 2147483647).bind fun t379 => (if t379 = true then ((bluebellref06_in.f a1_2 (-2147483648) 2147483647).bind fun t380 => (bluebellref06_numbers.j0 k (!t380) a0_0 l0_1 l0_2 l0_3 a0_4 a0_5 a1_0 a1_1 a1_2)) else (bluebellref06_numbers.j0 k true a0_0 l0_1 l0_2 l0_3 a0_4 a0_5 a1_0 a1_1 a1_2))) = some r := by rw [if_pos rfl] at H; exact H
   clear H
   have H := H1
   clear H1
   replace H := Option.bind_eq_some_iff.mp H
   obtain ⟨t379, A80, H⟩ := H
   replace H : (if t379 = true then ((bluebellref06_in.f a1_2 (-2147483648) 2147483647).bind fun t380 => (bluebellref06_numbers.j0 k (!t380) a0_0 l0_1 l0_2 l0_3 a0_4 a0_5 a1_0 a1_1 a1_2)) else (bluebellref06_numbers.j0 k true a0_0 l0_1 l0_2 l0_3 a0_4 a0_5 a1_0 a1_1 a1_2)) = some r := H
   have A8 := Aside0.mk A80
   clear A80
   by_cases c9 : t379 = true
   ·subst c9
    have H1 : ((bluebellref06_in.f a1_2 (-2147483648) 2147483647).bind fun t380 => (bluebellref06_numbers.j0 k (!t380) a0_0 l0_1 l0_2 l0_3 a0_4 a0_5 a1_0 a1_1 a1_2)) = some r := by rw [if_pos rfl] at H; exact H
    clear H
    have H := H1
    clear H1
    replace H := Option.bind_eq_some_iff.mp H
    obtain ⟨t380, A100, H⟩ := H
    replace H : (bluebellref06_numbers.j0 k (!t380) a0_0 l0_1 l0_2 l0_3 a0_4 a0_5 a1_0 a1_1 a1_2) = some r := H
    have A10 := Aside0.mk A100
    clear A100
    have H' := Aside0.mk H
    clear H
    have hnb11 := NB377_376.out
    have hnc11 := NB376_377.out
    obtain ⟨z12_0, z12_1, z12_2, y12_0, y12_1, y12_2⟩ := cells3 BK377.out
    go_wp2_with (first | ((with_reducible refine gate_callee (f := 71) rfl ?_); refine goesL_ (some 7) rfl rfl Try.func71 (by kernel_rfl) rfl #[.int .i64 a1_0, .int .i64 1, .int .i64 30] rfl mpE ?_; (with_reducible refine (bluebellref06_in.calls a1_0 1 30 true _ A6.out).mono ?_); rintro e w' ⟨rfl, ⟨nd, rfl⟩⟩; refine ⟨_, rfl, ?_⟩) | (go_at_call 71; (with_reducible refine (bluebellref06_in.calls a1_1 (-2147483648) 2147483647 true _ A8.out).mono ?_); rintro e w' ⟨rfl, ⟨nd, rfl⟩⟩) | (go_at_call 71; (with_reducible refine (bluebellref06_in.calls a1_2 (-2147483648) 2147483647 t380 _ A10.out).mono ?_); rintro e w' ⟨rfl, ⟨nd, rfl⟩⟩))
    go_meet
    case rel => exact ⟨_, (!t380), wrE, H', ⟨by first | omega | exact Nat.le_refl _⟩, ⟨bk⟩, ⟨bk⟩, ⟨bw⟩⟩
   ·replace c9 := Bool.eq_false_iff.mpr c9
    subst c9
    have H1 : (bluebellref06_numbers.j0 k true a0_0 l0_1 l0_2 l0_3 a0_4 a0_5 a1_0 a1_1 a1_2) = some r := by rw [if_neg (show ¬ (false = true) by decide)] at H; exact H
    clear H
    have H := H1
    clear H1
    have H' := Aside0.mk H
    clear H
    have hnb13 := NB377_376.out
    have hnc13 := NB376_377.out
    obtain ⟨z14_0, z14_1, z14_2, y14_0, y14_1, y14_2⟩ := cells3 BK377.out
    go_wp2_with (first | ((with_reducible refine gate_callee (f := 71) rfl ?_); refine goesL_ (some 7) rfl rfl Try.func71 (by kernel_rfl) rfl #[.int .i64 a1_0, .int .i64 1, .int .i64 30] rfl mpE ?_; (with_reducible refine (bluebellref06_in.calls a1_0 1 30 true _ A6.out).mono ?_); rintro e w' ⟨rfl, ⟨nd, rfl⟩⟩; refine ⟨_, rfl, ?_⟩) | (go_at_call 71; (with_reducible refine (bluebellref06_in.calls a1_1 (-2147483648) 2147483647 false _ A8.out).mono ?_); rintro e w' ⟨rfl, ⟨nd, rfl⟩⟩))
    go_meet
    case rel => exact ⟨_, (true), wrE, H', ⟨by first | omega | exact Nat.le_refl _⟩, ⟨bk⟩, ⟨bk⟩, ⟨bw⟩⟩
  ·replace c7 := Bool.eq_false_iff.mpr c7
   subst c7
   have H1 : (bluebellref06_numbers.j0 k true a0_0 l0_1 l0_2 l0_3 a0_4 a0_5 a1_0 a1_1 a1_2) = some r := by rw [if_neg (show ¬ (false = true) by decide)] at H; exact H
   clear H
   have H := H1
   clear H1
   have H' := Aside0.mk H
   clear H
   have hnb15 := NB377_376.out
   have hnc15 := NB376_377.out
   obtain ⟨z16_0, z16_1, z16_2, y16_0, y16_1, y16_2⟩ := cells3 BK377.out
   go_wp2_with (first | ((with_reducible refine gate_callee (f := 71) rfl ?_); refine goesL_ (some 7) rfl rfl Try.func71 (by kernel_rfl) rfl #[.int .i64 a1_0, .int .i64 1, .int .i64 30] rfl mpE ?_; (with_reducible refine (bluebellref06_in.calls a1_0 1 30 false _ A6.out).mono ?_); rintro e w' ⟨rfl, ⟨nd, rfl⟩⟩; refine ⟨_, rfl, ?_⟩))
   go_meet
   case rel => exact ⟨_, (true), wrE, H', ⟨by first | omega | exact Nat.le_refl _⟩, ⟨bk⟩, ⟨bk⟩, ⟨bw⟩⟩
 case rest =>
  clear HC3
  obtain ⟨kq, x20_2, rfl, HA, HJ2, BK376, BK377, HB⟩ := hcut
  cases kq with
  | zero => exact absurd HA.out (by simp [bluebellref06_numbers.j0])
  | succ kj2 =>
   have H := HA.out
   clear HA
   simp only [bluebellref06_numbers.j0] at H
   by_cases c17 : x20_2 = true
   ·subst c17
    have H1 : (some false) = some r := by rw [if_pos rfl] at H; exact H
    clear H
    have H := H1
    clear H1
    obtain rfl := Option.some.inj H
    go_wp2
    go_ret
    exact ⟨erE, bw⟩
   ·replace c17 := Bool.eq_false_iff.mpr c17
    subst c17
    have H1 : (if a1_0 = 24 then (bluebellref06_numbers.j1 kj2 false a0_0 l0_1 l0_2 l0_3 a0_4 a0_5 a1_0 a1_1 a1_2) else (if a1_0 = 29 then (bluebellref06_numbers.j1 kj2 false a0_0 l0_1 l0_2 l0_3 a0_4 a0_5 a1_0 a1_1 a1_2) else (if a1_0 = 30 then (bluebellref06_numbers.j1 kj2 false a0_0 l0_1 l0_2 l0_3 a0_4 a0_5 a1_0 a1_1 a1_2) else (bluebellref06_numbers.j1 kj2 (a1_2 != 0) a0_0 l0_1 l0_2 l0_3 a0_4 a0_5 a1_0 a1_1 a1_2)))) = some r := by rw [if_neg (show ¬ (false = true) by decide)] at H; exact H
    clear H
    have H := H1
    clear H1
    have HC18 := Aside0.mk H
    clear H
    go_upto_region 3 with (fail)
    go_cut [38] (fun v38 wc => ∃ (kq : Nat) (x38_17 : Bool), v38 = .bool x38_17 ∧ Aside0 (bluebellref06_numbers.j1 kq x38_17 a0_0 l0_1 l0_2 l0_3 a0_4 a0_5 a1_0 a1_1 a1_2 = some r) ∧ Aside0 (kq ≤ kj2) ∧ Aside0 (wc.heap[gb376]? = some (.cells #[.string a0_0, (.slice A0_1 l0_1.length c0_1), (.slice A0_2 l0_2.length c0_2), (.slice A0_3 l0_3.length c0_3), .int .i64 a0_4, .int .i64 a0_5] 26 (0, 0))) ∧ Aside0 (wc.heap[gb377]? = some (.cells #[.int .i64 a1_0, .int .i64 a1_1, .int .i64 a1_2] 35 (0, 0))) ∧ Aside0 (Below w.heap.size w wc))
    case first =>
     have H := HC18.out
     clear HC18
     by_cases c19 : a1_0 = 24
     ·rw [if_pos c19] at H
      have c19b0 : (a1_0 == 24) = true := beq_iff_eq.mpr c19
      have c19b1 : (a1_0 != 24) = false := bne_eq_false_iff_eq.mpr c19
      clear c19
      (first | rw [c19b0] | (simp only [i64_w, i32_w]; rw [c19b0]) | skip)
      have H' := Aside0.mk H
      clear H
      have hnb20 := NB377_376.out
      have hnc20 := NB376_377.out
      obtain ⟨z21_0, z21_1, z21_2, y21_0, y21_1, y21_2⟩ := cells3 BK377.out
      go_wp2
      (first | go_meet | (refine Met.intro ?_; go_step; (repeat apply Exists.intro); refine ⟨?rel, ?fr_⟩; (case fr_ => first | (simp only [c19b1, c19b0]; done) | (simp only [c19b1, c19b0]; rfl) | (simp only [c19b1, c19b0]; rfl))))
      case rel => exact ⟨_, (false), wrE, H', ⟨by have := HJ2.out; first | omega | exact Nat.le_refl _⟩, ⟨bk⟩, ⟨bk⟩, ⟨bw⟩⟩
     ·rw [if_neg c19] at H
      have c19b0 : (a1_0 == 24) = false := beq_eq_false_iff_ne.mpr c19
      have c19b1 : (a1_0 != 24) = true := bne_iff_ne.mpr c19
      (first | rw [c19b0] | (simp only [i64_w, i32_w]; rw [c19b0]) | skip)
      by_cases c22 : a1_0 = 29
      ·rw [if_pos c22] at H
       have c22b0 : (a1_0 == 29) = true := beq_iff_eq.mpr c22
       have c22b1 : (a1_0 != 29) = false := bne_eq_false_iff_eq.mpr c22
       clear c22
       have H' := Aside0.mk H
       clear H
       have hnb23 := NB377_376.out
       have hnc23 := NB376_377.out
       obtain ⟨z24_0, z24_1, z24_2, y24_0, y24_1, y24_2⟩ := cells3 BK377.out
       go_wp2
       (first | go_meet | (refine Met.intro ?_; go_step; (repeat apply Exists.intro); refine ⟨?rel, ?fr_⟩; (case fr_ => first | (simp only [c22b1, c22b0, c19b1, c19b0]; done) | (simp only [c22b1, c22b0, c19b1, c19b0]; rfl) | (simp only [c22b1, c22b0, c19b1, c19b0]; rfl))))
       case rel => exact ⟨_, (false), wrE, H', ⟨by have := HJ2.out; first | omega | exact Nat.le_refl _⟩, ⟨bk⟩, ⟨bk⟩, ⟨bw⟩⟩
      ·rw [if_neg c22] at H
       have c22b0 : (a1_0 == 29) = false := beq_eq_false_iff_ne.mpr c22
       have c22b1 : (a1_0 != 29) = true := bne_iff_ne.mpr c22
       by_cases c25 : a1_0 = 30
       ·rw [if_pos c25] at H
        have c25b0 : (a1_0 == 30) = true := beq_iff_eq.mpr c25
        have c25b1 : (a1_0 != 30) = false := bne_eq_false_iff_eq.mpr c25
        clear c25
        have H' := Aside0.mk H
        clear H
        have hnb26 := NB377_376.out
        have hnc26 := NB376_377.out
        obtain ⟨z27_0, z27_1, z27_2, y27_0, y27_1, y27_2⟩ := cells3 BK377.out
        go_wp2
        (first | go_meet | (refine Met.intro ?_; go_step; (repeat apply Exists.intro); refine ⟨?rel, ?fr_⟩; (case fr_ => first | (simp only [c25b1, c25b0, c22b1, c22b0, c19b1, c19b0]; done) | (simp only [c25b1, c25b0, c22b1, c22b0, c19b1, c19b0]; rfl) | (simp only [c25b1, c25b0, c22b1, c22b0, c19b1, c19b0]; rfl))))
        case rel => exact ⟨_, (false), wrE, H', ⟨by have := HJ2.out; first | omega | exact Nat.le_refl _⟩, ⟨bk⟩, ⟨bk⟩, ⟨bw⟩⟩
       ·rw [if_neg c25] at H
        have c25b0 : (a1_0 == 30) = false := beq_eq_false_iff_ne.mpr c25
        have c25b1 : (a1_0 != 30) = true := bne_iff_ne.mpr c25
        have H' := Aside0.mk H
        clear H
        have hnb28 := NB377_376.out
        have hnc28 := NB376_377.out
        obtain ⟨z29_0, z29_1, z29_2, y29_0, y29_1, y29_2⟩ := cells3 BK377.out
        go_wp2
        (first | go_meet | (refine Met.intro ?_; go_step; (repeat apply Exists.intro); refine ⟨?rel, ?fr_⟩; (case fr_ => first | (simp only [c25b1, c25b0, c22b1, c22b0, c19b1, c19b0]; done) | (simp only [c25b1, c25b0, c22b1, c22b0, c19b1, c19b0]; rfl) | (simp only [c25b1, c25b0, c22b1, c22b0, c19b1, c19b0]; rfl))))
        case rel => exact ⟨_, ((a1_2 != 0)), wrE, H', ⟨by have := HJ2.out; first | omega | exact Nat.le_refl _⟩, ⟨bk⟩, ⟨bk⟩, ⟨bw⟩⟩
    case rest =>
     clear HC18
     obtain ⟨kq, x38_17, rfl, HA, HJ17, BK376, BK377, HB⟩ := hcut
     cases kq with
     | zero => exact absurd HA.out (by simp [bluebellref06_numbers.j1])
     | succ kj17 =>
      have H := HA.out
      clear HA
      simp only [bluebellref06_numbers.j1] at H
      by_cases c30 : x38_17 = true
      ·subst c30
       have H1 : (some false) = some r := by rw [if_pos rfl] at H; exact H
       clear H
       have H := H1
       clear H1
       obtain rfl := Option.some.inj H
       go_wp2
       go_ret
       exact ⟨erE, bw⟩
      ·replace c30 := Bool.eq_false_iff.mpr c30
       subst c30
       have H1 : (if a1_0 = 1 then (some true) else (if a1_0 = 2 then (bluebellref06_numbers.j2 kj17 a1_0 (a1_0 == 2) a0_0 l0_1 l0_2 l0_3 a0_4 a0_5 a1_0 a1_1 a1_2) else (if a1_0 = 3 then (bluebellref06_numbers.j2 kj17 a1_0 (a1_0 == 3) a0_0 l0_1 l0_2 l0_3 a0_4 a0_5 a1_0 a1_1 a1_2) else (if a1_0 = 4 then (bluebellref06_numbers.j2 kj17 a1_0 (a1_0 == 4) a0_0 l0_1 l0_2 l0_3 a0_4 a0_5 a1_0 a1_1 a1_2) else (if a1_0 = 23 then (bluebellref06_numbers.j2 kj17 a1_0 (a1_0 == 23) a0_0 l0_1 l0_2 l0_3 a0_4 a0_5 a1_0 a1_1 a1_2) else (if a1_0 = 18 then (bluebellref06_numbers.j2 kj17 a1_0 (a1_0 == 18) a0_0 l0_1 l0_2 l0_3 a0_4 a0_5 a1_0 a1_1 a1_2) else (bluebellref06_numbers.j2 kj17 a1_0 (a1_0 == 28) a0_0 l0_1 l0_2 l0_3 a0_4 a0_5 a1_0 a1_1 a1_2))))))) = some r := by rw [if_neg (show ¬ (false = true) by decide)] at H; exact H
       clear H
       have H := H1
       clear H1
       by_cases c31 : a1_0 = 1
       ·rw [if_pos c31] at H
        have c31b0 : (a1_0 == 1) = true := beq_iff_eq.mpr c31
        have c31b1 : (a1_0 != 1) = false := bne_eq_false_iff_eq.mpr c31
        clear c31
        obtain rfl := Option.some.inj H
        have hnb32 := NB377_376.out
        have hnc32 := NB376_377.out
        obtain ⟨z33_0, z33_1, z33_2, y33_0, y33_1, y33_2⟩ := cells3 BK377.out
        go_wp2
        go_ret
        exact ⟨erE, bw⟩
       ·rw [if_neg c31] at H
        have c31b0 : (a1_0 == 1) = false := beq_eq_false_iff_ne.mpr c31
        have c31b1 : (a1_0 != 1) = true := bne_iff_ne.mpr c31
        have HC34 := Aside0.mk H
        clear H
        have hnb35 := NB377_376.out
        have hnc35 := NB376_377.out
        obtain ⟨z36_0, z36_1, z36_2, y36_0, y36_1, y36_2⟩ := cells3 BK377.out
        go_upto_if 43 with (fail)
        go_cut [43] (fun v43 wc => ∃ (kq : Nat) (x43_33 : Bool), v43 = .bool x43_33 ∧ Aside0 (bluebellref06_numbers.j2 kq a1_0 x43_33 a0_0 l0_1 l0_2 l0_3 a0_4 a0_5 a1_0 a1_1 a1_2 = some r) ∧ Aside0 (kq ≤ kj17) ∧ Aside0 (wc.heap[gb376]? = some (.cells #[.string a0_0, (.slice A0_1 l0_1.length c0_1), (.slice A0_2 l0_2.length c0_2), (.slice A0_3 l0_3.length c0_3), .int .i64 a0_4, .int .i64 a0_5] 26 (0, 0))) ∧ Aside0 (wc.heap[gb377]? = some (.cells #[.int .i64 a1_0, .int .i64 a1_1, .int .i64 a1_2] 35 (0, 0))) ∧ Aside0 (Below w.heap.size w wc))
        case first =>
         have H := HC34.out
         clear HC34
         by_cases c37 : a1_0 = 2
         ·rw [if_pos c37] at H
          have c37b0 : (a1_0 == 2) = true := beq_iff_eq.mpr c37
          have c37b1 : (a1_0 != 2) = false := bne_eq_false_iff_eq.mpr c37
          clear c37
          (first | rw [c37b0] | (simp only [i64_w, i32_w]; rw [c37b0]) | skip)
          have H' := Aside0.mk H
          clear H
          go_wp2
          (first | go_meet | (refine Met.intro ?_; go_step; (repeat apply Exists.intro); refine ⟨?rel, ?fr_⟩; (case fr_ => first | (simp only [c37b1, c37b0]; done) | (simp only [c37b1, c37b0]; rfl) | (simp only [c37b1, c37b0]; rfl))))
          case rel => exact ⟨_, ((a1_0 == 2)), wrE, H', ⟨by have := HJ2.out; have := HJ17.out; first | omega | exact Nat.le_refl _⟩, ⟨bk⟩, ⟨bk⟩, ⟨bw⟩⟩
         ·rw [if_neg c37] at H
          have c37b0 : (a1_0 == 2) = false := beq_eq_false_iff_ne.mpr c37
          have c37b1 : (a1_0 != 2) = true := bne_iff_ne.mpr c37
          (first | rw [c37b0] | (simp only [i64_w, i32_w]; rw [c37b0]) | skip)
          by_cases c38 : a1_0 = 3
          ·rw [if_pos c38] at H
           have c38b0 : (a1_0 == 3) = true := beq_iff_eq.mpr c38
           have c38b1 : (a1_0 != 3) = false := bne_eq_false_iff_eq.mpr c38
           clear c38
           have H' := Aside0.mk H
           clear H
           go_wp2
           (first | go_meet | (refine Met.intro ?_; go_step; (repeat apply Exists.intro); refine ⟨?rel, ?fr_⟩; (case fr_ => first | (simp only [c38b1, c38b0, c37b1, c37b0]; done) | (simp only [c38b1, c38b0, c37b1, c37b0]; rfl) | (simp only [c38b1, c38b0, c37b1, c37b0]; rfl))))
           case rel => exact ⟨_, ((a1_0 == 3)), wrE, H', ⟨by have := HJ2.out; have := HJ17.out; first | omega | exact Nat.le_refl _⟩, ⟨bk⟩, ⟨bk⟩, ⟨bw⟩⟩
          ·rw [if_neg c38] at H
           have c38b0 : (a1_0 == 3) = false := beq_eq_false_iff_ne.mpr c38
           have c38b1 : (a1_0 != 3) = true := bne_iff_ne.mpr c38
           by_cases c39 : a1_0 = 4
           ·rw [if_pos c39] at H
            have c39b0 : (a1_0 == 4) = true := beq_iff_eq.mpr c39
            have c39b1 : (a1_0 != 4) = false := bne_eq_false_iff_eq.mpr c39
            clear c39
            have H' := Aside0.mk H
            clear H
            go_wp2
            (first | go_meet | (refine Met.intro ?_; go_step; (repeat apply Exists.intro); refine ⟨?rel, ?fr_⟩; (case fr_ => first | (simp only [c39b1, c39b0, c38b1, c38b0, c37b1, c37b0]; done) | (simp only [c39b1, c39b0, c38b1, c38b0, c37b1, c37b0]; rfl) | (simp only [c39b1, c39b0, c38b1, c38b0, c37b1, c37b0]; rfl))))
            case rel => exact ⟨_, ((a1_0 == 4)), wrE, H', ⟨by have := HJ2.out; have := HJ17.out; first | omega | exact Nat.le_refl _⟩, ⟨bk⟩, ⟨bk⟩, ⟨bw⟩⟩
           ·rw [if_neg c39] at H
            have c39b0 : (a1_0 == 4) = false := beq_eq_false_iff_ne.mpr c39
            have c39b1 : (a1_0 != 4) = true := bne_iff_ne.mpr c39
            by_cases c40 : a1_0 = 23
            ·rw [if_pos c40] at H
             have c40b0 : (a1_0 == 23) = true := beq_iff_eq.mpr c40
             have c40b1 : (a1_0 != 23) = false := bne_eq_false_iff_eq.mpr c40
             clear c40
             have H' := Aside0.mk H
             clear H
             go_wp2
             (first | go_meet | (refine Met.intro ?_; go_step; (repeat apply Exists.intro); refine ⟨?rel, ?fr_⟩; (case fr_ => first | (simp only [c40b1, c40b0, c39b1, c39b0, c38b1, c38b0, c37b1, c37b0]; done) | (simp only [c40b1, c40b0, c39b1, c39b0, c38b1, c38b0, c37b1, c37b0]; rfl) | (simp only [c40b1, c40b0, c39b1, c39b0, c38b1, c38b0, c37b1, c37b0]; rfl))))
             case rel => exact ⟨_, ((a1_0 == 23)), wrE, H', ⟨by have := HJ2.out; have := HJ17.out; first | omega | exact Nat.le_refl _⟩, ⟨bk⟩, ⟨bk⟩, ⟨bw⟩⟩
            ·rw [if_neg c40] at H
             have c40b0 : (a1_0 == 23) = false := beq_eq_false_iff_ne.mpr c40
             have c40b1 : (a1_0 != 23) = true := bne_iff_ne.mpr c40
             by_cases c41 : a1_0 = 18
             ·rw [if_pos c41] at H
              have c41b0 : (a1_0 == 18) = true := beq_iff_eq.mpr c41
              have c41b1 : (a1_0 != 18) = false := bne_eq_false_iff_eq.mpr c41
              clear c41
              have H' := Aside0.mk H
              clear H
              go_wp2
              (first | go_meet | (refine Met.intro ?_; go_step; (repeat apply Exists.intro); refine ⟨?rel, ?fr_⟩; (case fr_ => first | (simp only [c41b1, c41b0, c40b1, c40b0, c39b1, c39b0, c38b1, c38b0, c37b1, c37b0]; done) | (simp only [c41b1, c41b0, c40b1, c40b0, c39b1, c39b0, c38b1, c38b0, c37b1, c37b0]; rfl) | (simp only [c41b1, c41b0, c40b1, c40b0, c39b1, c39b0, c38b1, c38b0, c37b1, c37b0]; rfl))))
              case rel => exact ⟨_, ((a1_0 == 18)), wrE, H', ⟨by have := HJ2.out; have := HJ17.out; first | omega | exact Nat.le_refl _⟩, ⟨bk⟩, ⟨bk⟩, ⟨bw⟩⟩
             ·rw [if_neg c41] at H
              have c41b0 : (a1_0 == 18) = false := beq_eq_false_iff_ne.mpr c41
              have c41b1 : (a1_0 != 18) = true := bne_iff_ne.mpr c41
              have H' := Aside0.mk H
              clear H
              go_wp2
              (first | go_meet | (refine Met.intro ?_; go_step; (repeat apply Exists.intro); refine ⟨?rel, ?fr_⟩; (case fr_ => first | (simp only [c41b1, c41b0, c40b1, c40b0, c39b1, c39b0, c38b1, c38b0, c37b1, c37b0]; done) | (simp only [c41b1, c41b0, c40b1, c40b0, c39b1, c39b0, c38b1, c38b0, c37b1, c37b0]; rfl) | (simp only [c41b1, c41b0, c40b1, c40b0, c39b1, c39b0, c38b1, c38b0, c37b1, c37b0]; rfl))))
              case rel => exact ⟨_, ((a1_0 == 28)), wrE, H', ⟨by have := HJ2.out; have := HJ17.out; first | omega | exact Nat.le_refl _⟩, ⟨bk⟩, ⟨bk⟩, ⟨bw⟩⟩
        case rest =>
         clear HC34
         clear c31 c31b0 c31b1 z36_0 z36_1 z36_2 y36_0 y36_1 y36_2
         obtain ⟨kq, x43_33, rfl, HA, HJ33, BK376, BK377, HB⟩ := hcut
         cases kq with
         | zero => exact absurd HA.out (by simp [bluebellref06_numbers.j2])
         | succ kj33 =>
          have H := HA.out
          clear HA
          simp only [bluebellref06_numbers.j2] at H
          by_cases c42 : x43_33 = true
          ·subst c42
           have H1 : ((bluebellref06_in.f a1_1 0 4000).bind fun t381 => (some t381)) = some r := by rw [if_pos rfl] at H; exact H
           clear H
           have H := H1
           clear H1
           replace H := Option.bind_eq_some_iff.mp H
           obtain ⟨t381, A430, H⟩ := H
           replace H : (some t381) = some r := H
           have A43 := Aside0.mk A430
           clear A430
           obtain rfl := Option.some.inj H
           have hnb44 := NB377_376.out
           have hnc44 := NB376_377.out
           obtain ⟨z45_0, z45_1, z45_2, y45_0, y45_1, y45_2⟩ := cells3 BK377.out
           go_wp2_with (first | ((with_reducible refine gate_callee (f := 71) rfl ?_); refine goesL_ (some 52) rfl rfl Try.func71 (by kernel_rfl) rfl #[.int .i64 a1_1, .int .i64 0, .int .i64 4000] rfl mpE ?_; (with_reducible refine (bluebellref06_in.calls a1_1 0 4000 t381 _ A43.out).mono ?_); rintro e w' ⟨rfl, ⟨nd, rfl⟩⟩; refine ⟨_, rfl, ?_⟩))
           go_ret
           exact ⟨erE, bw⟩
          ·replace c42 := Bool.eq_false_iff.mpr c42
           subst c42
           have H1 : (if a1_0 = 5 then (bluebellref06_numbers.j3 kj33 a1_0 (a1_0 == 5) a0_0 l0_1 l0_2 l0_3 a0_4 a0_5 a1_0 a1_1 a1_2) else (if a1_0 = 6 then (bluebellref06_numbers.j3 kj33 a1_0 (a1_0 == 6) a0_0 l0_1 l0_2 l0_3 a0_4 a0_5 a1_0 a1_1 a1_2) else (bluebellref06_numbers.j3 kj33 a1_0 (a1_0 == 7) a0_0 l0_1 l0_2 l0_3 a0_4 a0_5 a1_0 a1_1 a1_2))) = some r := by rw [if_neg (show ¬ (false = true) by decide)] at H; exact H
           clear H
           have H := H1
           clear H1
           have HC46 := Aside0.mk H
           clear H
           go_upto_if 53 with (fail)
           go_cut [53] (fun v53 wc => ∃ (kq : Nat) (x53_45 : Bool), v53 = .bool x53_45 ∧ Aside0 (bluebellref06_numbers.j3 kq a1_0 x53_45 a0_0 l0_1 l0_2 l0_3 a0_4 a0_5 a1_0 a1_1 a1_2 = some r) ∧ Aside0 (kq ≤ kj33) ∧ Aside0 (wc.heap[gb376]? = some (.cells #[.string a0_0, (.slice A0_1 l0_1.length c0_1), (.slice A0_2 l0_2.length c0_2), (.slice A0_3 l0_3.length c0_3), .int .i64 a0_4, .int .i64 a0_5] 26 (0, 0))) ∧ Aside0 (wc.heap[gb377]? = some (.cells #[.int .i64 a1_0, .int .i64 a1_1, .int .i64 a1_2] 35 (0, 0))) ∧ Aside0 (Below w.heap.size w wc))
           case first =>
            have H := HC46.out
            clear HC46
            by_cases c47 : a1_0 = 5
            ·rw [if_pos c47] at H
             have c47b0 : (a1_0 == 5) = true := beq_iff_eq.mpr c47
             have c47b1 : (a1_0 != 5) = false := bne_eq_false_iff_eq.mpr c47
             clear c47
             (first | rw [c47b0] | (simp only [i64_w, i32_w]; rw [c47b0]) | skip)
             have H' := Aside0.mk H
             clear H
             go_wp2
             (first | go_meet | (refine Met.intro ?_; go_step; (repeat apply Exists.intro); refine ⟨?rel, ?fr_⟩; (case fr_ => first | (simp only [c47b1, c47b0]; done) | (simp only [c47b1, c47b0]; rfl) | (simp only [c47b1, c47b0]; rfl))))
             case rel => exact ⟨_, ((a1_0 == 5)), wrE, H', ⟨by have := HJ2.out; have := HJ17.out; have := HJ33.out; first | omega | exact Nat.le_refl _⟩, ⟨bk⟩, ⟨bk⟩, ⟨bw⟩⟩
            ·rw [if_neg c47] at H
             have c47b0 : (a1_0 == 5) = false := beq_eq_false_iff_ne.mpr c47
             have c47b1 : (a1_0 != 5) = true := bne_iff_ne.mpr c47
             (first | rw [c47b0] | (simp only [i64_w, i32_w]; rw [c47b0]) | skip)
             by_cases c48 : a1_0 = 6
             ·rw [if_pos c48] at H
              have c48b0 : (a1_0 == 6) = true := beq_iff_eq.mpr c48
              have c48b1 : (a1_0 != 6) = false := bne_eq_false_iff_eq.mpr c48
              clear c48
              have H' := Aside0.mk H
              clear H
              go_wp2
              (first | go_meet | (refine Met.intro ?_; go_step; (repeat apply Exists.intro); refine ⟨?rel, ?fr_⟩; (case fr_ => first | (simp only [c48b1, c48b0, c47b1, c47b0]; done) | (simp only [c48b1, c48b0, c47b1, c47b0]; rfl) | (simp only [c48b1, c48b0, c47b1, c47b0]; rfl))))
              case rel => exact ⟨_, ((a1_0 == 6)), wrE, H', ⟨by have := HJ2.out; have := HJ17.out; have := HJ33.out; first | omega | exact Nat.le_refl _⟩, ⟨bk⟩, ⟨bk⟩, ⟨bw⟩⟩
             ·rw [if_neg c48] at H
              have c48b0 : (a1_0 == 6) = false := beq_eq_false_iff_ne.mpr c48
              have c48b1 : (a1_0 != 6) = true := bne_iff_ne.mpr c48
              have H' := Aside0.mk H
              clear H
              go_wp2
              (first | go_meet | (refine Met.intro ?_; go_step; (repeat apply Exists.intro); refine ⟨?rel, ?fr_⟩; (case fr_ => first | (simp only [c48b1, c48b0, c47b1, c47b0]; done) | (simp only [c48b1, c48b0, c47b1, c47b0]; rfl) | (simp only [c48b1, c48b0, c47b1, c47b0]; rfl))))
              case rel => exact ⟨_, ((a1_0 == 7)), wrE, H', ⟨by have := HJ2.out; have := HJ17.out; have := HJ33.out; first | omega | exact Nat.le_refl _⟩, ⟨bk⟩, ⟨bk⟩, ⟨bw⟩⟩
           case rest =>
            clear HC46
            obtain ⟨kq, x53_45, rfl, HA, HJ45, BK376, BK377, HB⟩ := hcut
            cases kq with
            | zero => exact absurd HA.out (by simp [bluebellref06_numbers.j3])
            | succ kj45 =>
             have H := HA.out
             clear HA
             simp only [bluebellref06_numbers.j3] at H
             by_cases c49 : x53_45 = true
             ·subst c49
              have H1 : ((bluebellref06_in.f a1_1 0 199).bind fun t382 => (some t382)) = some r := by rw [if_pos rfl] at H; exact H
              clear H
              have H := H1
              clear H1
              replace H := Option.bind_eq_some_iff.mp H
              obtain ⟨t382, A500, H⟩ := H
              replace H : (some t382) = some r := H
              have A50 := Aside0.mk A500
              clear A500
              obtain rfl := Option.some.inj H
              have hnb51 := NB377_376.out
              have hnc51 := NB376_377.out
              obtain ⟨z52_0, z52_1, z52_2, y52_0, y52_1, y52_2⟩ := cells3 BK377.out
              go_wp2_with (first | ((with_reducible refine gate_callee (f := 71) rfl ?_); refine goesL_ (some 59) rfl rfl Try.func71 (by kernel_rfl) rfl #[.int .i64 a1_1, .int .i64 0, .int .i64 199] rfl mpE ?_; (with_reducible refine (bluebellref06_in.calls a1_1 0 199 t382 _ A50.out).mono ?_); rintro e w' ⟨rfl, ⟨nd, rfl⟩⟩; refine ⟨_, rfl, ?_⟩))
              go_ret
              exact ⟨erE, bw⟩
             ·replace c49 := Bool.eq_false_iff.mpr c49
              subst c49
              have H1 : (if a1_0 = 8 then (bluebellref06_numbers.j4 kj45 a1_0 (a1_0 == 8) a0_0 l0_1 l0_2 l0_3 a0_4 a0_5 a1_0 a1_1 a1_2) else (if a1_0 = 9 then (bluebellref06_numbers.j4 kj45 a1_0 (a1_0 == 9) a0_0 l0_1 l0_2 l0_3 a0_4 a0_5 a1_0 a1_1 a1_2) else (bluebellref06_numbers.j4 kj45 a1_0 (a1_0 == 10) a0_0 l0_1 l0_2 l0_3 a0_4 a0_5 a1_0 a1_1 a1_2))) = some r := by rw [if_neg (show ¬ (false = true) by decide)] at H; exact H
              clear H
              have H := H1
              clear H1
              have HC53 := Aside0.mk H
              clear H
              go_upto_if 60 with (fail)
              go_cut [60] (fun v60 wc => ∃ (kq : Nat) (x60_52 : Bool), v60 = .bool x60_52 ∧ Aside0 (bluebellref06_numbers.j4 kq a1_0 x60_52 a0_0 l0_1 l0_2 l0_3 a0_4 a0_5 a1_0 a1_1 a1_2 = some r) ∧ Aside0 (kq ≤ kj45) ∧ Aside0 (wc.heap[gb376]? = some (.cells #[.string a0_0, (.slice A0_1 l0_1.length c0_1), (.slice A0_2 l0_2.length c0_2), (.slice A0_3 l0_3.length c0_3), .int .i64 a0_4, .int .i64 a0_5] 26 (0, 0))) ∧ Aside0 (wc.heap[gb377]? = some (.cells #[.int .i64 a1_0, .int .i64 a1_1, .int .i64 a1_2] 35 (0, 0))) ∧ Aside0 (Below w.heap.size w wc))
              case first =>
               have H := HC53.out
               clear HC53
               by_cases c54 : a1_0 = 8
               ·rw [if_pos c54] at H
                have c54b0 : (a1_0 == 8) = true := beq_iff_eq.mpr c54
                have c54b1 : (a1_0 != 8) = false := bne_eq_false_iff_eq.mpr c54
                clear c54
                (first | rw [c54b0] | (simp only [i64_w, i32_w]; rw [c54b0]) | skip)
                have H' := Aside0.mk H
                clear H
                go_wp2
                (first | go_meet | (refine Met.intro ?_; go_step; (repeat apply Exists.intro); refine ⟨?rel, ?fr_⟩; (case fr_ => first | (simp only [c54b1, c54b0]; done) | (simp only [c54b1, c54b0]; rfl) | (simp only [c54b1, c54b0]; rfl))))
                case rel => exact ⟨_, ((a1_0 == 8)), wrE, H', ⟨by have := HJ2.out; have := HJ17.out; have := HJ33.out; have := HJ45.out; first | omega | exact Nat.le_refl _⟩, ⟨bk⟩, ⟨bk⟩, ⟨bw⟩⟩
               ·rw [if_neg c54] at H
                have c54b0 : (a1_0 == 8) = false := beq_eq_false_iff_ne.mpr c54
                have c54b1 : (a1_0 != 8) = true := bne_iff_ne.mpr c54
                (first | rw [c54b0] | (simp only [i64_w, i32_w]; rw [c54b0]) | skip)
                by_cases c55 : a1_0 = 9
                ·rw [if_pos c55] at H
                 have c55b0 : (a1_0 == 9) = true := beq_iff_eq.mpr c55
                 have c55b1 : (a1_0 != 9) = false := bne_eq_false_iff_eq.mpr c55
                 clear c55
                 have H' := Aside0.mk H
                 clear H
                 go_wp2
                 (first | go_meet | (refine Met.intro ?_; go_step; (repeat apply Exists.intro); refine ⟨?rel, ?fr_⟩; (case fr_ => first | (simp only [c55b1, c55b0, c54b1, c54b0]; done) | (simp only [c55b1, c55b0, c54b1, c54b0]; rfl) | (simp only [c55b1, c55b0, c54b1, c54b0]; rfl))))
                 case rel => exact ⟨_, ((a1_0 == 9)), wrE, H', ⟨by have := HJ2.out; have := HJ17.out; have := HJ33.out; have := HJ45.out; first | omega | exact Nat.le_refl _⟩, ⟨bk⟩, ⟨bk⟩, ⟨bw⟩⟩
                ·rw [if_neg c55] at H
                 have c55b0 : (a1_0 == 9) = false := beq_eq_false_iff_ne.mpr c55
                 have c55b1 : (a1_0 != 9) = true := bne_iff_ne.mpr c55
                 have H' := Aside0.mk H
                 clear H
                 go_wp2
                 (first | go_meet | (refine Met.intro ?_; go_step; (repeat apply Exists.intro); refine ⟨?rel, ?fr_⟩; (case fr_ => first | (simp only [c55b1, c55b0, c54b1, c54b0]; done) | (simp only [c55b1, c55b0, c54b1, c54b0]; rfl) | (simp only [c55b1, c55b0, c54b1, c54b0]; rfl))))
                 case rel => exact ⟨_, ((a1_0 == 10)), wrE, H', ⟨by have := HJ2.out; have := HJ17.out; have := HJ33.out; have := HJ45.out; first | omega | exact Nat.le_refl _⟩, ⟨bk⟩, ⟨bk⟩, ⟨bw⟩⟩
              case rest =>
               clear HC53
               obtain ⟨kq, x60_52, rfl, HA, HJ52, BK376, BK377, HB⟩ := hcut
               cases kq with
               | zero => exact absurd HA.out (by simp [bluebellref06_numbers.j4])
               | succ kj52 =>
                have H := HA.out
                clear HA
                simp only [bluebellref06_numbers.j4] at H
                by_cases c56 : x60_52 = true
                ·subst c56
                 have H1 : ((bluebellref06_in.f a1_1 0 (wrap64 ((l0_1.length : Int) - 1))).bind fun t383 => (some t383)) = some r := by rw [if_pos rfl] at H; exact H
                 clear H
                 have H := H1
                 clear H1
                 replace H := Option.bind_eq_some_iff.mp H
                 obtain ⟨t383, A570, H⟩ := H
                 replace H : (some t383) = some r := H
                 have A57 := Aside0.mk A570
                 clear A570
                 obtain rfl := Option.some.inj H
                 have hnb58 := NB377_376.out
                 have hnc58 := NB376_377.out
                 obtain ⟨z59_0, z59_1, z59_2, y59_0, y59_1, y59_2⟩ := cells3 BK377.out
                 obtain ⟨z60_0, z60_1, z60_2, z60_3, z60_4, z60_5, y60_0, y60_1, y60_2, y60_3, y60_4, y60_5⟩ := cells6 BK376.out
                 go_wp2_with (first | ((with_reducible refine gate_callee (f := 71) rfl ?_); refine goesL_ (some 70) rfl rfl Try.func71 (by kernel_rfl) rfl #[.int .i64 a1_1, .int .i64 0, .int .i64 (wrap64 ((l0_1.length : Int) - 1))] rfl mpE ?_; (with_reducible refine (bluebellref06_in.calls a1_1 0 (wrap64 ((l0_1.length : Int) - 1)) t383 _ A57.out).mono ?_); rintro e w' ⟨rfl, ⟨nd, rfl⟩⟩; refine ⟨_, rfl, ?_⟩))
                 go_ret
                 exact ⟨erE, bw⟩
                ·replace c56 := Bool.eq_false_iff.mpr c56
                 subst c56
                 have H1 : (if a1_0 = 11 then ((bluebellref06_in.f a1_1 1 a0_4).bind fun t384 => (some t384)) else (if a1_0 = 16 then ((bluebellref06_in.f a1_1 1 17).bind fun t385 => (some t385)) else (if a1_0 = 17 then (if a1_1 = 18 then (some true) else (some (a1_1 == 19))) else (if a1_0 = 19 then (bluebellref06_numbers.j5 kj52 a1_0 (a1_0 == 19) a0_0 l0_1 l0_2 l0_3 a0_4 a0_5 a1_0 a1_1 a1_2) else (if a1_0 = 20 then (bluebellref06_numbers.j5 kj52 a1_0 (a1_0 == 20) a0_0 l0_1 l0_2 l0_3 a0_4 a0_5 a1_0 a1_1 a1_2) else (if a1_0 = 21 then (bluebellref06_numbers.j5 kj52 a1_0 (a1_0 == 21) a0_0 l0_1 l0_2 l0_3 a0_4 a0_5 a1_0 a1_1 a1_2) else (if a1_0 = 22 then (bluebellref06_numbers.j5 kj52 a1_0 (a1_0 == 22) a0_0 l0_1 l0_2 l0_3 a0_4 a0_5 a1_0 a1_1 a1_2) else (bluebellref06_numbers.j5 kj52 a1_0 (a1_0 == 27) a0_0 l0_1 l0_2 l0_3 a0_4 a0_5 a1_0 a1_1 a1_2)))))))) = some r := by rw [if_neg (show ¬ (false = true) by decide)] at H; exact H
                 clear H
                 have H := H1
                 clear H1
                 by_cases c61 : a1_0 = 11
                 ·rw [if_pos c61] at H
                  have c61b0 : (a1_0 == 11) = true := beq_iff_eq.mpr c61
                  have c61b1 : (a1_0 != 11) = false := bne_eq_false_iff_eq.mpr c61
                  clear c61
                  replace H := Option.bind_eq_some_iff.mp H
                  obtain ⟨t384, A620, H⟩ := H
                  replace H : (some t384) = some r := H
                  have A62 := Aside0.mk A620
                  clear A620
                  obtain rfl := Option.some.inj H
                  have hnb63 := NB377_376.out
                  have hnc63 := NB376_377.out
                  obtain ⟨z64_0, z64_1, z64_2, y64_0, y64_1, y64_2⟩ := cells3 BK377.out
                  obtain ⟨z65_0, z65_1, z65_2, z65_3, z65_4, z65_5, y65_0, y65_1, y65_2, y65_3, y65_4, y65_5⟩ := cells6 BK376.out
                  go_wp2_with (first | ((with_reducible refine gate_callee (f := 71) rfl ?_); refine goesL_ (some 77) rfl rfl Try.func71 (by kernel_rfl) rfl #[.int .i64 a1_1, .int .i64 1, .int .i64 a0_4] rfl mpE ?_; (with_reducible refine (bluebellref06_in.calls a1_1 1 a0_4 t384 _ A62.out).mono ?_); rintro e w' ⟨rfl, ⟨nd, rfl⟩⟩; refine ⟨_, rfl, ?_⟩))
                  go_ret
                  exact ⟨erE, bw⟩
                 ·rw [if_neg c61] at H
                  have c61b0 : (a1_0 == 11) = false := beq_eq_false_iff_ne.mpr c61
                  have c61b1 : (a1_0 != 11) = true := bne_iff_ne.mpr c61
                  by_cases c66 : a1_0 = 16
                  ·rw [if_pos c66] at H
                   have c66b0 : (a1_0 == 16) = true := beq_iff_eq.mpr c66
                   have c66b1 : (a1_0 != 16) = false := bne_eq_false_iff_eq.mpr c66
                   clear c66
                   replace H := Option.bind_eq_some_iff.mp H
                   obtain ⟨t385, A670, H⟩ := H
                   replace H : (some t385) = some r := H
                   have A67 := Aside0.mk A670
                   clear A670
                   obtain rfl := Option.some.inj H
                   have hnb68 := NB377_376.out
                   have hnc68 := NB376_377.out
                   obtain ⟨z69_0, z69_1, z69_2, y69_0, y69_1, y69_2⟩ := cells3 BK377.out
                   go_wp2_with (first | ((with_reducible refine gate_callee (f := 71) rfl ?_); refine goesL_ (some 82) rfl rfl Try.func71 (by kernel_rfl) rfl #[.int .i64 a1_1, .int .i64 1, .int .i64 17] rfl mpE ?_; (with_reducible refine (bluebellref06_in.calls a1_1 1 17 t385 _ A67.out).mono ?_); rintro e w' ⟨rfl, ⟨nd, rfl⟩⟩; refine ⟨_, rfl, ?_⟩))
                   go_ret
                   exact ⟨erE, bw⟩
                  ·rw [if_neg c66] at H
                   have c66b0 : (a1_0 == 16) = false := beq_eq_false_iff_ne.mpr c66
                   have c66b1 : (a1_0 != 16) = true := bne_iff_ne.mpr c66
                   by_cases c70 : a1_0 = 17
                   ·rw [if_pos c70] at H
                    have c70b0 : (a1_0 == 17) = true := beq_iff_eq.mpr c70
                    have c70b1 : (a1_0 != 17) = false := bne_eq_false_iff_eq.mpr c70
                    clear c70
                    by_cases c71 : a1_1 = 18
                    ·rw [if_pos c71] at H
                     have c71b0 : (a1_1 == 18) = true := beq_iff_eq.mpr c71
                     have c71b1 : (a1_1 != 18) = false := bne_eq_false_iff_eq.mpr c71
                     clear c71
                     obtain rfl := Option.some.inj H
                     have hnb72 := NB377_376.out
                     have hnc72 := NB376_377.out
                     obtain ⟨z73_0, z73_1, z73_2, y73_0, y73_1, y73_2⟩ := cells3 BK377.out
                     go_wp2
                     go_ret
                     exact ⟨erE, bw⟩
                    ·rw [if_neg c71] at H
                     have c71b0 : (a1_1 == 18) = false := beq_eq_false_iff_ne.mpr c71
                     have c71b1 : (a1_1 != 18) = true := bne_iff_ne.mpr c71
                     obtain rfl := Option.some.inj H
                     have hnb74 := NB377_376.out
                     have hnc74 := NB376_377.out
                     obtain ⟨z75_0, z75_1, z75_2, y75_0, y75_1, y75_2⟩ := cells3 BK377.out
                     go_wp2
                     go_ret
                     exact ⟨erE, bw⟩
                   ·rw [if_neg c70] at H
                    have c70b0 : (a1_0 == 17) = false := beq_eq_false_iff_ne.mpr c70
                    have c70b1 : (a1_0 != 17) = true := bne_iff_ne.mpr c70
                    have HC76 := Aside0.mk H
                    clear H
                    go_upto_if 93 with (fail)
                    go_cut [93] (fun v93 wc => ∃ (kq : Nat) (x93_75 : Bool), v93 = .bool x93_75 ∧ Aside0 (bluebellref06_numbers.j5 kq a1_0 x93_75 a0_0 l0_1 l0_2 l0_3 a0_4 a0_5 a1_0 a1_1 a1_2 = some r) ∧ Aside0 (kq ≤ kj52) ∧ Aside0 (wc.heap[gb376]? = some (.cells #[.string a0_0, (.slice A0_1 l0_1.length c0_1), (.slice A0_2 l0_2.length c0_2), (.slice A0_3 l0_3.length c0_3), .int .i64 a0_4, .int .i64 a0_5] 26 (0, 0))) ∧ Aside0 (wc.heap[gb377]? = some (.cells #[.int .i64 a1_0, .int .i64 a1_1, .int .i64 a1_2] 35 (0, 0))) ∧ Aside0 (Below w.heap.size w wc))
                    case first =>
                     have H := HC76.out
                     clear HC76
                     by_cases c77 : a1_0 = 19
                     ·rw [if_pos c77] at H
                      have c77b0 : (a1_0 == 19) = true := beq_iff_eq.mpr c77
                      have c77b1 : (a1_0 != 19) = false := bne_eq_false_iff_eq.mpr c77
                      clear c77
                      (first | rw [c77b0] | (simp only [i64_w, i32_w]; rw [c77b0]) | skip)
                      have H' := Aside0.mk H
                      clear H
                      go_wp2
                      (first | go_meet | (refine Met.intro ?_; go_step; (repeat apply Exists.intro); refine ⟨?rel, ?fr_⟩; (case fr_ => first | (simp only [c77b1, c77b0]; done) | (simp only [c77b1, c77b0]; rfl) | (simp only [c77b1, c77b0]; rfl))))
                      case rel => exact ⟨_, ((a1_0 == 19)), wrE, H', ⟨by have := HJ2.out; have := HJ17.out; have := HJ33.out; have := HJ45.out; have := HJ52.out; first | omega | exact Nat.le_refl _⟩, ⟨bk⟩, ⟨bk⟩, ⟨bw⟩⟩
                     ·rw [if_neg c77] at H
                      have c77b0 : (a1_0 == 19) = false := beq_eq_false_iff_ne.mpr c77
                      have c77b1 : (a1_0 != 19) = true := bne_iff_ne.mpr c77
                      (first | rw [c77b0] | (simp only [i64_w, i32_w]; rw [c77b0]) | skip)
                      by_cases c78 : a1_0 = 20
                      ·rw [if_pos c78] at H
                       have c78b0 : (a1_0 == 20) = true := beq_iff_eq.mpr c78
                       have c78b1 : (a1_0 != 20) = false := bne_eq_false_iff_eq.mpr c78
                       clear c78
                       have H' := Aside0.mk H
                       clear H
                       go_wp2
                       (first | go_meet | (refine Met.intro ?_; go_step; (repeat apply Exists.intro); refine ⟨?rel, ?fr_⟩; (case fr_ => first | (simp only [c78b1, c78b0, c77b1, c77b0]; done) | (simp only [c78b1, c78b0, c77b1, c77b0]; rfl) | (simp only [c78b1, c78b0, c77b1, c77b0]; rfl))))
                       case rel => exact ⟨_, ((a1_0 == 20)), wrE, H', ⟨by have := HJ2.out; have := HJ17.out; have := HJ33.out; have := HJ45.out; have := HJ52.out; first | omega | exact Nat.le_refl _⟩, ⟨bk⟩, ⟨bk⟩, ⟨bw⟩⟩
                      ·rw [if_neg c78] at H
                       have c78b0 : (a1_0 == 20) = false := beq_eq_false_iff_ne.mpr c78
                       have c78b1 : (a1_0 != 20) = true := bne_iff_ne.mpr c78
                       by_cases c79 : a1_0 = 21
                       ·rw [if_pos c79] at H
                        have c79b0 : (a1_0 == 21) = true := beq_iff_eq.mpr c79
                        have c79b1 : (a1_0 != 21) = false := bne_eq_false_iff_eq.mpr c79
                        clear c79
                        have H' := Aside0.mk H
                        clear H
                        go_wp2
                        (first | go_meet | (refine Met.intro ?_; go_step; (repeat apply Exists.intro); refine ⟨?rel, ?fr_⟩; (case fr_ => first | (simp only [c79b1, c79b0, c78b1, c78b0, c77b1, c77b0]; done) | (simp only [c79b1, c79b0, c78b1, c78b0, c77b1, c77b0]; rfl) | (simp only [c79b1, c79b0, c78b1, c78b0, c77b1, c77b0]; rfl))))
                        case rel => exact ⟨_, ((a1_0 == 21)), wrE, H', ⟨by have := HJ2.out; have := HJ17.out; have := HJ33.out; have := HJ45.out; have := HJ52.out; first | omega | exact Nat.le_refl _⟩, ⟨bk⟩, ⟨bk⟩, ⟨bw⟩⟩
                       ·rw [if_neg c79] at H
                        have c79b0 : (a1_0 == 21) = false := beq_eq_false_iff_ne.mpr c79
                        have c79b1 : (a1_0 != 21) = true := bne_iff_ne.mpr c79
                        by_cases c80 : a1_0 = 22
                        ·rw [if_pos c80] at H
                         have c80b0 : (a1_0 == 22) = true := beq_iff_eq.mpr c80
                         have c80b1 : (a1_0 != 22) = false := bne_eq_false_iff_eq.mpr c80
                         clear c80
                         have H' := Aside0.mk H
                         clear H
                         go_wp2
                         (first | go_meet | (refine Met.intro ?_; go_step; (repeat apply Exists.intro); refine ⟨?rel, ?fr_⟩; (case fr_ => first | (simp only [c80b1, c80b0, c79b1, c79b0, c78b1, c78b0, c77b1, c77b0]; done) | (simp only [c80b1, c80b0, c79b1, c79b0, c78b1, c78b0, c77b1, c77b0]; rfl) | (simp only [c80b1, c80b0, c79b1, c79b0, c78b1, c78b0, c77b1, c77b0]; rfl))))
                         case rel => exact ⟨_, ((a1_0 == 22)), wrE, H', ⟨by have := HJ2.out; have := HJ17.out; have := HJ33.out; have := HJ45.out; have := HJ52.out; first | omega | exact Nat.le_refl _⟩, ⟨bk⟩, ⟨bk⟩, ⟨bw⟩⟩
                        ·rw [if_neg c80] at H
                         have c80b0 : (a1_0 == 22) = false := beq_eq_false_iff_ne.mpr c80
                         have c80b1 : (a1_0 != 22) = true := bne_iff_ne.mpr c80
                         have H' := Aside0.mk H
                         clear H
                         go_wp2
                         (first | go_meet | (refine Met.intro ?_; go_step; (repeat apply Exists.intro); refine ⟨?rel, ?fr_⟩; (case fr_ => first | (simp only [c80b1, c80b0, c79b1, c79b0, c78b1, c78b0, c77b1, c77b0]; done) | (simp only [c80b1, c80b0, c79b1, c79b0, c78b1, c78b0, c77b1, c77b0]; rfl) | (simp only [c80b1, c80b0, c79b1, c79b0, c78b1, c78b0, c77b1, c77b0]; rfl))))
                         case rel => exact ⟨_, ((a1_0 == 27)), wrE, H', ⟨by have := HJ2.out; have := HJ17.out; have := HJ33.out; have := HJ45.out; have := HJ52.out; first | omega | exact Nat.le_refl _⟩, ⟨bk⟩, ⟨bk⟩, ⟨bw⟩⟩
                    case rest =>
                     clear HC76
                     clear c61 c61b0 c61b1 c66 c66b0 c66b1 c70 c70b0 c70b1
                     obtain ⟨kq, x93_75, rfl, HA, HJ75, BK376, BK377, HB⟩ := hcut
                     cases kq with
                     | zero => exact absurd HA.out (by simp [bluebellref06_numbers.j5])
                     | succ kj75 =>
                      have H := HA.out
                      clear HA
                      simp only [bluebellref06_numbers.j5] at H
                      by_cases c81 : x93_75 = true
                      ·subst c81
                       have H1 : ((bluebellref06_in.f a1_1 1 a0_5).bind fun t386 => (some t386)) = some r := by rw [if_pos rfl] at H; exact H
                       clear H
                       have H := H1
                       clear H1
                       replace H := Option.bind_eq_some_iff.mp H
                       obtain ⟨t386, A820, H⟩ := H
                       replace H : (some t386) = some r := H
                       have A82 := Aside0.mk A820
                       clear A820
                       obtain rfl := Option.some.inj H
                       have hnb83 := NB377_376.out
                       have hnc83 := NB376_377.out
                       obtain ⟨z84_0, z84_1, z84_2, y84_0, y84_1, y84_2⟩ := cells3 BK377.out
                       obtain ⟨z85_0, z85_1, z85_2, z85_3, z85_4, z85_5, y85_0, y85_1, y85_2, y85_3, y85_4, y85_5⟩ := cells6 BK376.out
                       go_wp2_with (first | ((with_reducible refine gate_callee (f := 71) rfl ?_); refine goesL_ (some 103) rfl rfl Try.func71 (by kernel_rfl) rfl #[.int .i64 a1_1, .int .i64 1, .int .i64 a0_5] rfl mpE ?_; (with_reducible refine (bluebellref06_in.calls a1_1 1 a0_5 t386 _ A82.out).mono ?_); rintro e w' ⟨rfl, ⟨nd, rfl⟩⟩; refine ⟨_, rfl, ?_⟩))
                       go_ret
                       exact ⟨erE, bw⟩
                      ·replace c81 := Bool.eq_false_iff.mpr c81
                       subst c81
                       have H1 : (if a1_0 = 24 then ((bluebellref06_in.f a1_1 1 a0_4).bind fun t387 => (if t387 = true then ((bluebellref06_in.f a1_2 0 8).bind fun t388 => (some t388)) else (some false))) else (if a1_0 = 29 then ((bluebellref06_in.f a1_1 1 a0_5).bind fun t389 => (if t389 = true then ((bluebellref06_in.f a1_2 0 1000).bind fun t390 => (some t390)) else (some false))) else (if a1_0 = 30 then ((bluebellref06_in.f a1_2 1 a0_5).bind fun t391 => (some t391)) else (some (a1_1 == 0))))) = some r := by rw [if_neg (show ¬ (false = true) by decide)] at H; exact H
                       clear H
                       have H := H1
                       clear H1
                       by_cases c86 : a1_0 = 24
                       ·rw [if_pos c86] at H
                        have c86b0 : (a1_0 == 24) = true := beq_iff_eq.mpr c86
                        have c86b1 : (a1_0 != 24) = false := bne_eq_false_iff_eq.mpr c86
                        clear c86
                        replace H := Option.bind_eq_some_iff.mp H
                        obtain ⟨t387, A870, H⟩ := H
                        replace H : (if t387 = true then ((bluebellref06_in.f a1_2 0 8).bind fun t388 => (some t388)) else (some false)) = some r := H
                        have A87 := Aside0.mk A870
                        clear A870
                        by_cases c88 : t387 = true
                        ·subst c88
                         have H1 : ((bluebellref06_in.f a1_2 0 8).bind fun t388 => (some t388)) = some r := by rw [if_pos rfl] at H; exact H
                         clear H
                         have H := H1
                         clear H1
                         replace H := Option.bind_eq_some_iff.mp H
                         obtain ⟨t388, A890, H⟩ := H
                         replace H : (some t388) = some r := H
                         have A89 := Aside0.mk A890
                         clear A890
                         obtain rfl := Option.some.inj H
                         have hnb90 := NB377_376.out
                         have hnc90 := NB376_377.out
                         obtain ⟨z91_0, z91_1, z91_2, y91_0, y91_1, y91_2⟩ := cells3 BK377.out
                         obtain ⟨z92_0, z92_1, z92_2, z92_3, z92_4, z92_5, y92_0, y92_1, y92_2, y92_3, y92_4, y92_5⟩ := cells6 BK376.out
                         go_wp2_with (first | ((with_reducible refine gate_callee (f := 71) rfl ?_); refine goesL_ (some 110) rfl rfl Try.func71 (by kernel_rfl) rfl #[.int .i64 a1_1, .int .i64 1, .int .i64 a0_4] rfl mpE ?_; (with_reducible refine (bluebellref06_in.calls a1_1 1 a0_4 true _ A87.out).mono ?_); rintro e w' ⟨rfl, ⟨nd, rfl⟩⟩; refine ⟨_, rfl, ?_⟩) | (go_at_call 71; (with_reducible refine (bluebellref06_in.calls a1_2 0 8 t388 _ A89.out).mono ?_); rintro e w' ⟨rfl, ⟨nd, rfl⟩⟩))
                         go_ret
                         exact ⟨erE, bw⟩
                        ·replace c88 := Bool.eq_false_iff.mpr c88
                         subst c88
                         have H1 : (some false) = some r := by rw [if_neg (show ¬ (false = true) by decide)] at H; exact H
                         clear H
                         have H := H1
                         clear H1
                         obtain rfl := Option.some.inj H
                         have hnb93 := NB377_376.out
                         have hnc93 := NB376_377.out
                         obtain ⟨z94_0, z94_1, z94_2, y94_0, y94_1, y94_2⟩ := cells3 BK377.out
                         obtain ⟨z95_0, z95_1, z95_2, z95_3, z95_4, z95_5, y95_0, y95_1, y95_2, y95_3, y95_4, y95_5⟩ := cells6 BK376.out
                         go_wp2_with (first | ((with_reducible refine gate_callee (f := 71) rfl ?_); refine goesL_ (some 110) rfl rfl Try.func71 (by kernel_rfl) rfl #[.int .i64 a1_1, .int .i64 1, .int .i64 a0_4] rfl mpE ?_; (with_reducible refine (bluebellref06_in.calls a1_1 1 a0_4 false _ A87.out).mono ?_); rintro e w' ⟨rfl, ⟨nd, rfl⟩⟩; refine ⟨_, rfl, ?_⟩))
                         go_ret
                         exact ⟨erE, bw⟩
                       ·rw [if_neg c86] at H
                        have c86b0 : (a1_0 == 24) = false := beq_eq_false_iff_ne.mpr c86
                        have c86b1 : (a1_0 != 24) = true := bne_iff_ne.mpr c86
                        by_cases c96 : a1_0 = 29
                        ·rw [if_pos c96] at H
                         have c96b0 : (a1_0 == 29) = true := beq_iff_eq.mpr c96
                         have c96b1 : (a1_0 != 29) = false := bne_eq_false_iff_eq.mpr c96
                         clear c96
                         replace H := Option.bind_eq_some_iff.mp H
                         obtain ⟨t389, A970, H⟩ := H
                         replace H : (if t389 = true then ((bluebellref06_in.f a1_2 0 1000).bind fun t390 => (some t390)) else (some false)) = some r := H
                         have A97 := Aside0.mk A970
                         clear A970
                         by_cases c98 : t389 = true
                         ·subst c98
                          have H1 : ((bluebellref06_in.f a1_2 0 1000).bind fun t390 => (some t390)) = some r := by rw [if_pos rfl] at H; exact H
                          clear H
                          have H := H1
                          clear H1
                          replace H := Option.bind_eq_some_iff.mp H
                          obtain ⟨t390, A990, H⟩ := H
                          replace H : (some t390) = some r := H
                          have A99 := Aside0.mk A990
                          clear A990
                          obtain rfl := Option.some.inj H
                          have hnb100 := NB377_376.out
                          have hnc100 := NB376_377.out
                          obtain ⟨z101_0, z101_1, z101_2, y101_0, y101_1, y101_2⟩ := cells3 BK377.out
                          obtain ⟨z102_0, z102_1, z102_2, z102_3, z102_4, z102_5, y102_0, y102_1, y102_2, y102_3, y102_4, y102_5⟩ := cells6 BK376.out
                          go_wp2_with (first | ((with_reducible refine gate_callee (f := 71) rfl ?_); refine goesL_ (some 122) rfl rfl Try.func71 (by kernel_rfl) rfl #[.int .i64 a1_1, .int .i64 1, .int .i64 a0_5] rfl mpE ?_; (with_reducible refine (bluebellref06_in.calls a1_1 1 a0_5 true _ A97.out).mono ?_); rintro e w' ⟨rfl, ⟨nd, rfl⟩⟩; refine ⟨_, rfl, ?_⟩) | (go_at_call 71; (with_reducible refine (bluebellref06_in.calls a1_2 0 1000 t390 _ A99.out).mono ?_); rintro e w' ⟨rfl, ⟨nd, rfl⟩⟩))
                          go_ret
                          exact ⟨erE, bw⟩
                         ·replace c98 := Bool.eq_false_iff.mpr c98
                          subst c98
                          have H1 : (some false) = some r := by rw [if_neg (show ¬ (false = true) by decide)] at H; exact H
                          clear H
                          have H := H1
                          clear H1
                          obtain rfl := Option.some.inj H
                          have hnb103 := NB377_376.out
                          have hnc103 := NB376_377.out
                          obtain ⟨z104_0, z104_1, z104_2, y104_0, y104_1, y104_2⟩ := cells3 BK377.out
                          obtain ⟨z105_0, z105_1, z105_2, z105_3, z105_4, z105_5, y105_0, y105_1, y105_2, y105_3, y105_4, y105_5⟩ := cells6 BK376.out
                          go_wp2_with (first | ((with_reducible refine gate_callee (f := 71) rfl ?_); refine goesL_ (some 122) rfl rfl Try.func71 (by kernel_rfl) rfl #[.int .i64 a1_1, .int .i64 1, .int .i64 a0_5] rfl mpE ?_; (with_reducible refine (bluebellref06_in.calls a1_1 1 a0_5 false _ A97.out).mono ?_); rintro e w' ⟨rfl, ⟨nd, rfl⟩⟩; refine ⟨_, rfl, ?_⟩))
                          go_ret
                          exact ⟨erE, bw⟩
                        ·rw [if_neg c96] at H
                         have c96b0 : (a1_0 == 29) = false := beq_eq_false_iff_ne.mpr c96
                         have c96b1 : (a1_0 != 29) = true := bne_iff_ne.mpr c96
                         by_cases c106 : a1_0 = 30
                         ·rw [if_pos c106] at H
                          have c106b0 : (a1_0 == 30) = true := beq_iff_eq.mpr c106
                          have c106b1 : (a1_0 != 30) = false := bne_eq_false_iff_eq.mpr c106
                          clear c106
                          replace H := Option.bind_eq_some_iff.mp H
                          obtain ⟨t391, A1070, H⟩ := H
                          replace H : (some t391) = some r := H
                          have A107 := Aside0.mk A1070
                          clear A1070
                          obtain rfl := Option.some.inj H
                          have hnb108 := NB377_376.out
                          have hnc108 := NB376_377.out
                          obtain ⟨z109_0, z109_1, z109_2, y109_0, y109_1, y109_2⟩ := cells3 BK377.out
                          obtain ⟨z110_0, z110_1, z110_2, z110_3, z110_4, z110_5, y110_0, y110_1, y110_2, y110_3, y110_4, y110_5⟩ := cells6 BK376.out
                          go_wp2_with (first | ((with_reducible refine gate_callee (f := 71) rfl ?_); refine goesL_ (some 134) rfl rfl Try.func71 (by kernel_rfl) rfl #[.int .i64 a1_2, .int .i64 1, .int .i64 a0_5] rfl mpE ?_; (with_reducible refine (bluebellref06_in.calls a1_2 1 a0_5 t391 _ A107.out).mono ?_); rintro e w' ⟨rfl, ⟨nd, rfl⟩⟩; refine ⟨_, rfl, ?_⟩))
                          go_ret
                          exact ⟨erE, bw⟩
                         ·rw [if_neg c106] at H
                          have c106b0 : (a1_0 == 30) = false := beq_eq_false_iff_ne.mpr c106
                          have c106b1 : (a1_0 != 30) = true := bne_iff_ne.mpr c106
                          obtain rfl := Option.some.inj H
                          have hnb111 := NB377_376.out
                          have hnc111 := NB376_377.out
                          obtain ⟨z112_0, z112_1, z112_2, y112_0, y112_1, y112_2⟩ := cells3 BK377.out
                          go_wp2
                          go_ret
                          exact ⟨erE, bw⟩



/-! ### bluebellref06_GoesOn: function 72 -/
def bluebellref06_GoesOn.f (a0_0 : Int) (a0_1 : Int) (a0_2 : Int) : Option (Bool) := if a0_0 = 20 then (some false) else (if a0_0 = 25 then (some false) else (if a0_0 = 26 then (some false) else (if a0_0 = 27 then (some false) else (if a0_0 = 29 then (some false) else (some (a0_0 != 30))))))
set_option maxHeartbeats 8000000 in
set_option maxRecDepth 100000 in
theorem bluebellref06_GoesOn.calls (a0_0 : Int) (a0_1 : Int) (a0_2 : Int) (r : Bool) (w : World) (h : bluebellref06_GoesOn.f a0_0 a0_1 a0_2 = some r) :
  Calls Try.prog 72 #[.agg #[.int .i64 a0_0, .int .i64 a0_1, .int .i64 a0_2]] w fun e w' => e = .returned (.bool r) ∧ Below w.heap.size w w' := by
 have hu35 := Try.underlying35
 have HB := Aside0.mk (Below.refl w.heap.size w)
 have H : (if a0_0 = 20 then (some false) else (if a0_0 = 25 then (some false) else (if a0_0 = 26 then (some false) else (if a0_0 = 27 then (some false) else (if a0_0 = 29 then (some false) else (some (a0_0 != 30))))))) = some r := h
 clear h
 by_cases c2 : a0_0 = 20
 ·rw [if_pos c2] at H
  have c2b0 : (a0_0 == 20) = true := beq_iff_eq.mpr c2
  have c2b1 : (a0_0 != 20) = false := bne_eq_false_iff_eq.mpr c2
  clear c2
  obtain rfl := Option.some.inj H
  go_enter Try.func72, Try.ntmps72
  go_wp2_with (first | ((with_reducible refine gate_dst (N := 1) rfl ?_); refine boxev (N := 1) (cs := #[.int .i64 a0_0, .int .i64 a0_1, .int .i64 a0_2]) (t := 35) ?_; intro gb392 hg w3 hbox hb; have BK392 := Aside0.mk (hbox); have GW392 := Aside0.mk ((by rw [hg]; exact bsz : w.heap.size ≤ gb392)); have GE392 := Aside0.mk ((by rw [hg]; exact bsz : w.heap.size ≤ gb392)); replace HB := Aside0.mk (bstep hb); clear hb hbox hg; obtain ⟨z4_0, z4_1, z4_2, y4_0, y4_1, y4_2⟩ := cells3 BK392.out))
  go_ret
  exact ⟨erE, bw⟩
 ·rw [if_neg c2] at H
  have c2b0 : (a0_0 == 20) = false := beq_eq_false_iff_ne.mpr c2
  have c2b1 : (a0_0 != 20) = true := bne_iff_ne.mpr c2
  by_cases c5 : a0_0 = 25
  ·rw [if_pos c5] at H
   have c5b0 : (a0_0 == 25) = true := beq_iff_eq.mpr c5
   have c5b1 : (a0_0 != 25) = false := bne_eq_false_iff_eq.mpr c5
   clear c5
   obtain rfl := Option.some.inj H
   go_enter Try.func72, Try.ntmps72
   go_wp2_with (first | ((with_reducible refine gate_dst (N := 1) rfl ?_); refine boxev (N := 1) (cs := #[.int .i64 a0_0, .int .i64 a0_1, .int .i64 a0_2]) (t := 35) ?_; intro gb392 hg w6 hbox hb; have BK392 := Aside0.mk (hbox); have GW392 := Aside0.mk ((by rw [hg]; exact bsz : w.heap.size ≤ gb392)); have GE392 := Aside0.mk ((by rw [hg]; exact bsz : w.heap.size ≤ gb392)); replace HB := Aside0.mk (bstep hb); clear hb hbox hg; obtain ⟨z7_0, z7_1, z7_2, y7_0, y7_1, y7_2⟩ := cells3 BK392.out))
   go_ret
   exact ⟨erE, bw⟩
  ·rw [if_neg c5] at H
   have c5b0 : (a0_0 == 25) = false := beq_eq_false_iff_ne.mpr c5
   have c5b1 : (a0_0 != 25) = true := bne_iff_ne.mpr c5
   by_cases c8 : a0_0 = 26
   ·rw [if_pos c8] at H
    have c8b0 : (a0_0 == 26) = true := beq_iff_eq.mpr c8
    have c8b1 : (a0_0 != 26) = false := bne_eq_false_iff_eq.mpr c8
    clear c8
    obtain rfl := Option.some.inj H
    go_enter Try.func72, Try.ntmps72
    go_wp2_with (first | ((with_reducible refine gate_dst (N := 1) rfl ?_); refine boxev (N := 1) (cs := #[.int .i64 a0_0, .int .i64 a0_1, .int .i64 a0_2]) (t := 35) ?_; intro gb392 hg w9 hbox hb; have BK392 := Aside0.mk (hbox); have GW392 := Aside0.mk ((by rw [hg]; exact bsz : w.heap.size ≤ gb392)); have GE392 := Aside0.mk ((by rw [hg]; exact bsz : w.heap.size ≤ gb392)); replace HB := Aside0.mk (bstep hb); clear hb hbox hg; obtain ⟨z10_0, z10_1, z10_2, y10_0, y10_1, y10_2⟩ := cells3 BK392.out))
    go_ret
    exact ⟨erE, bw⟩
   ·rw [if_neg c8] at H
    have c8b0 : (a0_0 == 26) = false := beq_eq_false_iff_ne.mpr c8
    have c8b1 : (a0_0 != 26) = true := bne_iff_ne.mpr c8
    by_cases c11 : a0_0 = 27
    ·rw [if_pos c11] at H
     have c11b0 : (a0_0 == 27) = true := beq_iff_eq.mpr c11
     have c11b1 : (a0_0 != 27) = false := bne_eq_false_iff_eq.mpr c11
     clear c11
     obtain rfl := Option.some.inj H
     go_enter Try.func72, Try.ntmps72
     go_wp2_with (first | ((with_reducible refine gate_dst (N := 1) rfl ?_); refine boxev (N := 1) (cs := #[.int .i64 a0_0, .int .i64 a0_1, .int .i64 a0_2]) (t := 35) ?_; intro gb392 hg w12 hbox hb; have BK392 := Aside0.mk (hbox); have GW392 := Aside0.mk ((by rw [hg]; exact bsz : w.heap.size ≤ gb392)); have GE392 := Aside0.mk ((by rw [hg]; exact bsz : w.heap.size ≤ gb392)); replace HB := Aside0.mk (bstep hb); clear hb hbox hg; obtain ⟨z13_0, z13_1, z13_2, y13_0, y13_1, y13_2⟩ := cells3 BK392.out))
     go_ret
     exact ⟨erE, bw⟩
    ·rw [if_neg c11] at H
     have c11b0 : (a0_0 == 27) = false := beq_eq_false_iff_ne.mpr c11
     have c11b1 : (a0_0 != 27) = true := bne_iff_ne.mpr c11
     by_cases c14 : a0_0 = 29
     ·rw [if_pos c14] at H
      have c14b0 : (a0_0 == 29) = true := beq_iff_eq.mpr c14
      have c14b1 : (a0_0 != 29) = false := bne_eq_false_iff_eq.mpr c14
      clear c14
      obtain rfl := Option.some.inj H
      go_enter Try.func72, Try.ntmps72
      go_wp2_with (first | ((with_reducible refine gate_dst (N := 1) rfl ?_); refine boxev (N := 1) (cs := #[.int .i64 a0_0, .int .i64 a0_1, .int .i64 a0_2]) (t := 35) ?_; intro gb392 hg w15 hbox hb; have BK392 := Aside0.mk (hbox); have GW392 := Aside0.mk ((by rw [hg]; exact bsz : w.heap.size ≤ gb392)); have GE392 := Aside0.mk ((by rw [hg]; exact bsz : w.heap.size ≤ gb392)); replace HB := Aside0.mk (bstep hb); clear hb hbox hg; obtain ⟨z16_0, z16_1, z16_2, y16_0, y16_1, y16_2⟩ := cells3 BK392.out))
      go_ret
      exact ⟨erE, bw⟩
     ·rw [if_neg c14] at H
      have c14b0 : (a0_0 == 29) = false := beq_eq_false_iff_ne.mpr c14
      have c14b1 : (a0_0 != 29) = true := bne_iff_ne.mpr c14
      obtain rfl := Option.some.inj H
      go_enter Try.func72, Try.ntmps72
      go_wp2_with (first | ((with_reducible refine gate_dst (N := 1) rfl ?_); refine boxev (N := 1) (cs := #[.int .i64 a0_0, .int .i64 a0_1, .int .i64 a0_2]) (t := 35) ?_; intro gb392 hg w17 hbox hb; have BK392 := Aside0.mk (hbox); have GW392 := Aside0.mk ((by rw [hg]; exact bsz : w.heap.size ≤ gb392)); have GE392 := Aside0.mk ((by rw [hg]; exact bsz : w.heap.size ≤ gb392)); replace HB := Aside0.mk (bstep hb); clear hb hbox hg; obtain ⟨z18_0, z18_1, z18_2, y18_0, y18_1, y18_2⟩ := cells3 BK392.out))
      go_ret
      exact ⟨erE, bw⟩


end Go.Proofs.Ytkmcanknbdaliaa.PO
