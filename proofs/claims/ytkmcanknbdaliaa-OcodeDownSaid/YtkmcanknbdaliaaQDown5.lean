/- Lemmas for the law, put together: contracts of the program's functions and what they answer, in plain words (part 5). -/
import Derived.Test.YtkmcanknbdaliaaQDown1
import Derived.Test.YtkmcanknbdaliaaQDown3
import Derived.Test.YtkmcanknbdaliaaQDown4
import Derived.Test.YtkmcanknbdaliaaQDown2
import Derived.Test.YtkmcanknbdaliaaQDownEDepths
import Derived.Test.YtkmcanknbdaliaaQDownERoom
namespace Go.Proofs.Ytkmcanknbdaliaa.PO
open Go.RowKit Go.Proofs.YtkmcanknbdaliaaW.PrintWords Go.Proofs.YtkmcanknbdaliaaW.PrintLast Go.Proofs.YtkmcanknbdaliaaW.PrintMore
attribute [local go_sem] max2_int min2_int max_two min_two max_three min_three max_four min_four   -- for this text's walks alone
set_option linter.unusedVariables false
set_option linter.unusedSimpArgs false

/-! ### bluebelllaw06_OcodeDown: function 5 -/
mutual
def bluebelllaw06_OcodeDown.j0 : Nat → List Int → List Int → Bool → ByteArray → List (S47) → List (S35) → List (S68) → Int → Int → Option (Bool)
  | 0, _, _, _, _, _, _, _, _, _ => none
  | k + 1, x3, x5, x51, x328000, x328001, x328002, x328003, x328004, x328005 => if x51 = true then (some false) else (bluebelllaw06_OcodeDown.l0 k x3 x5 0 0 0 x328000 x328001 x328002 x328003 x328004 x328005)
def bluebelllaw06_OcodeDown.l0 : Nat → List Int → List Int → Int → Int → Int → ByteArray → List (S47) → List (S35) → List (S68) → Int → Int → Option (Bool)
  | 0, _, _, _, _, _, _, _, _, _, _, _ => none
  | k + 1, x3, x5, x7, x8, x9, x328000, x328001, x328002, x328003, x328004, x328005 => if x9 < (x3.length : Int) then (if 0 ≤ x9 then (if x9 < (x328002.length : Int) then ((bluebellref06_After.f k ((rd_T35 x328002 x9).f0) ((rd_T35 x328002 x9).f1) ((rd_T35 x328002 x9).f2) (rd x3 x9)).bind fun t346 => (if ((rd_T35 x328002 x9).f0) = 24 then (if x7 > 0 then (if 0 ≤ (wrap64 (x7 - 1)) then (if (wrap64 (x7 - 1)) < (x5.length : Int) then (if (rd x5 (wrap64 (x7 - 1))) = x8 then (bluebelllaw06_OcodeDown.j2 k x3 x5 x7 x9 t346 ((rd x3 x9) != 0) x328000 x328001 x328002 x328003 x328004 x328005) else (bluebelllaw06_OcodeDown.j2 k x3 x5 x7 x9 t346 true x328000 x328001 x328002 x328003 x328004 x328005)) else (none)) else (none)) else (bluebelllaw06_OcodeDown.j2 k x3 x5 x7 x9 t346 ((rd x3 x9) != 0) x328000 x328001 x328002 x328003 x328004 x328005)) else (if (rd x3 x9) < 2 then (bluebelllaw06_OcodeDown.j3 k x3 x5 x7 x8 x9 t346 true x328000 x328001 x328002 x328003 x328004 x328005) else (bluebelllaw06_OcodeDown.j3 k x3 x5 x7 x8 x9 t346 (decide ((rd x3 x9) > 4000)) x328000 x328001 x328002 x328003 x328004 x328005)))) else (none)) else (none)) else (if x7 = 0 then ((bluebelllaw06_awake.f k).bind fun t340 => (some t340)) else (if 0 ≤ (wrap64 (x7 - 1)) then (if (wrap64 (x7 - 1)) < (x5.length : Int) then (if (rd x5 (wrap64 (x7 - 1))) = x8 then ((bluebelllaw06_awake.f k).bind fun t342 => (some t342)) else (some false)) else (none)) else (none)))
def bluebelllaw06_OcodeDown.j2 : Nat → List Int → List Int → Int → Int → Int → Bool → ByteArray → List (S47) → List (S35) → List (S68) → Int → Int → Option (Bool)
  | 0, _, _, _, _, _, _, _, _, _, _, _, _ => none
  | k + 1, x3, x5, x7, x9, x11, x89, x328000, x328001, x328002, x328003, x328004, x328005 => if x89 = true then (some false) else (if 0 ≤ x9 then (if x9 < (x3.length : Int) then (if (wrap64 (x9 + 1)) < (x3.length : Int) then (if 0 ≤ (wrap64 (x9 + 1)) then (if (wrap64 (x9 + 1)) < (x328002.length : Int) then (if ((rd_T35 x328002 (wrap64 (x9 + 1))).f0) = 24 then (bluebelllaw06_OcodeDown.l0 k x3 x5 (wrap64 (x7 + 1)) (mx (mx 0 (rd x3 x9)) x11) (wrap64 (x9 + 1)) x328000 x328001 x328002 x328003 x328004 x328005) else (if (rd x3 (wrap64 (x9 + 1))) = x11 then (bluebelllaw06_OcodeDown.l0 k x3 x5 (wrap64 (x7 + 1)) (mx (mx 0 (rd x3 x9)) x11) (wrap64 (x9 + 1)) x328000 x328001 x328002 x328003 x328004 x328005) else (some false))) else (none)) else (none)) else (bluebelllaw06_OcodeDown.l0 k x3 x5 (wrap64 (x7 + 1)) (mx (mx 0 (rd x3 x9)) x11) (wrap64 (x9 + 1)) x328000 x328001 x328002 x328003 x328004 x328005)) else (none)) else (none))
def bluebelllaw06_OcodeDown.j3 : Nat → List Int → List Int → Int → Int → Int → Int → Bool → ByteArray → List (S47) → List (S35) → List (S68) → Int → Int → Option (Bool)
  | 0, _, _, _, _, _, _, _, _, _, _, _, _, _ => none
  | k + 1, x3, x5, x7, x8, x9, x11, x103, x328000, x328001, x328002, x328003, x328004, x328005 => if x103 = true then (some false) else (if 0 ≤ x9 then (if x9 < (x3.length : Int) then (if (wrap64 (x9 + 1)) < (x3.length : Int) then (if 0 ≤ (wrap64 (x9 + 1)) then (if (wrap64 (x9 + 1)) < (x328002.length : Int) then (if ((rd_T35 x328002 (wrap64 (x9 + 1))).f0) = 24 then (bluebelllaw06_OcodeDown.l0 k x3 x5 x7 (mx (mx x8 (rd x3 x9)) x11) (wrap64 (x9 + 1)) x328000 x328001 x328002 x328003 x328004 x328005) else (if (rd x3 (wrap64 (x9 + 1))) = x11 then (bluebelllaw06_OcodeDown.l0 k x3 x5 x7 (mx (mx x8 (rd x3 x9)) x11) (wrap64 (x9 + 1)) x328000 x328001 x328002 x328003 x328004 x328005) else (some false))) else (none)) else (none)) else (bluebelllaw06_OcodeDown.l0 k x3 x5 x7 (mx (mx x8 (rd x3 x9)) x11) (wrap64 (x9 + 1)) x328000 x328001 x328002 x328003 x328004 x328005)) else (none)) else (none))
end
def bluebelllaw06_OcodeDown.f (k : Nat) (a0_0 : ByteArray) (l0_1 : List (S47)) (l0_2 : List (S35)) (l0_3 : List (S68)) (a0_4 : Int) (a0_5 : Int) : Option (Bool) := (bluebelllaw06_heavy.f k a0_0 l0_1 l0_2 l0_3 a0_4 a0_5).bind fun t328 => (if t328 = true then ((bluebelllaw06_awake.f k).bind fun t329 => (some t329)) else ((ocode_Depths.f a0_0 l0_1 l0_2 l0_3 a0_4 a0_5).bind fun bt330 => ((ocode_Room.f a0_0 l0_1 l0_2 l0_3 a0_4 a0_5).bind fun bt334 => (if bt330.2 = 0 then (if (bt330.1.length : Int) = (l0_2.length : Int) then (bluebelllaw06_OcodeDown.j0 k bt330.1 bt334.1 ((bt334.1.length : Int) != a0_4) a0_0 l0_1 l0_2 l0_3 a0_4 a0_5) else (bluebelllaw06_OcodeDown.j0 k bt330.1 bt334.1 true a0_0 l0_1 l0_2 l0_3 a0_4 a0_5)) else (if bt330.2 = bt334.2 then ((ocode_Check.f k a0_0 l0_1 l0_2 l0_3 a0_4 a0_5).bind fun t338 => (if bt330.2 = t338 then ((bluebelllaw06_awake.f k).bind fun t339 => (some t339)) else (some false))) else (some false))))))
theorem bluebelllaw06_OcodeDown.mono_l : ∀ k, (∀ y0 y1 y2 y3 y4 y5 y6 y7 y8, LeO (bluebelllaw06_OcodeDown.j0 k y0 y1 y2 y3 y4 y5 y6 y7 y8) (bluebelllaw06_OcodeDown.j0 (k + 1) y0 y1 y2 y3 y4 y5 y6 y7 y8)) ∧ (∀ y0 y1 y2 y3 y4 y5 y6 y7 y8 y9 y10, LeO (bluebelllaw06_OcodeDown.l0 k y0 y1 y2 y3 y4 y5 y6 y7 y8 y9 y10) (bluebelllaw06_OcodeDown.l0 (k + 1) y0 y1 y2 y3 y4 y5 y6 y7 y8 y9 y10)) ∧ (∀ y0 y1 y2 y3 y4 y5 y6 y7 y8 y9 y10 y11, LeO (bluebelllaw06_OcodeDown.j2 k y0 y1 y2 y3 y4 y5 y6 y7 y8 y9 y10 y11) (bluebelllaw06_OcodeDown.j2 (k + 1) y0 y1 y2 y3 y4 y5 y6 y7 y8 y9 y10 y11)) ∧ (∀ y0 y1 y2 y3 y4 y5 y6 y7 y8 y9 y10 y11 y12, LeO (bluebelllaw06_OcodeDown.j3 k y0 y1 y2 y3 y4 y5 y6 y7 y8 y9 y10 y11 y12) (bluebelllaw06_OcodeDown.j3 (k + 1) y0 y1 y2 y3 y4 y5 y6 y7 y8 y9 y10 y11 y12))
  | 0 => ⟨fun _ _ _ _ _ _ _ _ _ r h => by simp [bluebelllaw06_OcodeDown.j0] at h, fun _ _ _ _ _ _ _ _ _ _ _ r h => by simp [bluebelllaw06_OcodeDown.l0] at h, fun _ _ _ _ _ _ _ _ _ _ _ _ r h => by simp [bluebelllaw06_OcodeDown.j2] at h, fun _ _ _ _ _ _ _ _ _ _ _ _ _ r h => by simp [bluebelllaw06_OcodeDown.j3] at h⟩
  | k + 1 => by
    obtain ⟨ih0, ih1, ih2, ih3⟩ := bluebelllaw06_OcodeDown.mono_l k
    refine ⟨?_, ?_, ?_, ?_⟩
    · intro y0 y1 y2 y3 y4 y5 y6 y7 y8
      unfold bluebelllaw06_OcodeDown.j0
      repeat' first
      | (with_reducible exact ih0 _ _ _ _ _ _ _ _ _)
      | (with_reducible exact ih1 _ _ _ _ _ _ _ _ _ _ _)
      | (with_reducible exact ih2 _ _ _ _ _ _ _ _ _ _ _ _)
      | (with_reducible exact ih3 _ _ _ _ _ _ _ _ _ _ _ _ _)
      | (with_reducible exact bluebelllaw06_awake.mono _)
      | (with_reducible exact bluebelllaw06_heavy.mono _ _ _ _ _ _ _)
      | (with_reducible exact bluebellref06_After.mono _ _ _ _ _)
      | (with_reducible exact ocode_Check.mono _ _ _ _ _ _ _)
      | (with_reducible exact LeO.refl _)
      | (with_reducible exact LeO.none _)
      | (with_reducible refine LeO.ite ?_ ?_)
      | (with_reducible refine LeO.bind ?_ (fun _ => ?_))
      | exact ih0 _ _ _ _ _ _ _ _ _
      | exact ih1 _ _ _ _ _ _ _ _ _ _ _
      | exact ih2 _ _ _ _ _ _ _ _ _ _ _ _
      | exact ih3 _ _ _ _ _ _ _ _ _ _ _ _ _
      | exact bluebelllaw06_awake.mono _
      | exact bluebelllaw06_heavy.mono _ _ _ _ _ _ _
      | exact bluebellref06_After.mono _ _ _ _ _
      | exact ocode_Check.mono _ _ _ _ _ _ _
      | exact LeO.none _
      | refine LeO.ite ?_ ?_
      | refine LeO.bind ?_ (fun _ => ?_)
    · intro y0 y1 y2 y3 y4 y5 y6 y7 y8 y9 y10
      unfold bluebelllaw06_OcodeDown.l0
      repeat' first
      | (with_reducible exact ih0 _ _ _ _ _ _ _ _ _)
      | (with_reducible exact ih1 _ _ _ _ _ _ _ _ _ _ _)
      | (with_reducible exact ih2 _ _ _ _ _ _ _ _ _ _ _ _)
      | (with_reducible exact ih3 _ _ _ _ _ _ _ _ _ _ _ _ _)
      | (with_reducible exact bluebelllaw06_awake.mono _)
      | (with_reducible exact bluebelllaw06_heavy.mono _ _ _ _ _ _ _)
      | (with_reducible exact bluebellref06_After.mono _ _ _ _ _)
      | (with_reducible exact ocode_Check.mono _ _ _ _ _ _ _)
      | (with_reducible exact LeO.refl _)
      | (with_reducible exact LeO.none _)
      | (with_reducible refine LeO.ite ?_ ?_)
      | (with_reducible refine LeO.bind ?_ (fun _ => ?_))
      | exact ih0 _ _ _ _ _ _ _ _ _
      | exact ih1 _ _ _ _ _ _ _ _ _ _ _
      | exact ih2 _ _ _ _ _ _ _ _ _ _ _ _
      | exact ih3 _ _ _ _ _ _ _ _ _ _ _ _ _
      | exact bluebelllaw06_awake.mono _
      | exact bluebelllaw06_heavy.mono _ _ _ _ _ _ _
      | exact bluebellref06_After.mono _ _ _ _ _
      | exact ocode_Check.mono _ _ _ _ _ _ _
      | exact LeO.none _
      | refine LeO.ite ?_ ?_
      | refine LeO.bind ?_ (fun _ => ?_)
    · intro y0 y1 y2 y3 y4 y5 y6 y7 y8 y9 y10 y11
      unfold bluebelllaw06_OcodeDown.j2
      repeat' first
      | (with_reducible exact ih0 _ _ _ _ _ _ _ _ _)
      | (with_reducible exact ih1 _ _ _ _ _ _ _ _ _ _ _)
      | (with_reducible exact ih2 _ _ _ _ _ _ _ _ _ _ _ _)
      | (with_reducible exact ih3 _ _ _ _ _ _ _ _ _ _ _ _ _)
      | (with_reducible exact bluebelllaw06_awake.mono _)
      | (with_reducible exact bluebelllaw06_heavy.mono _ _ _ _ _ _ _)
      | (with_reducible exact bluebellref06_After.mono _ _ _ _ _)
      | (with_reducible exact ocode_Check.mono _ _ _ _ _ _ _)
      | (with_reducible exact LeO.refl _)
      | (with_reducible exact LeO.none _)
      | (with_reducible refine LeO.ite ?_ ?_)
      | (with_reducible refine LeO.bind ?_ (fun _ => ?_))
      | exact ih0 _ _ _ _ _ _ _ _ _
      | exact ih1 _ _ _ _ _ _ _ _ _ _ _
      | exact ih2 _ _ _ _ _ _ _ _ _ _ _ _
      | exact ih3 _ _ _ _ _ _ _ _ _ _ _ _ _
      | exact bluebelllaw06_awake.mono _
      | exact bluebelllaw06_heavy.mono _ _ _ _ _ _ _
      | exact bluebellref06_After.mono _ _ _ _ _
      | exact ocode_Check.mono _ _ _ _ _ _ _
      | exact LeO.none _
      | refine LeO.ite ?_ ?_
      | refine LeO.bind ?_ (fun _ => ?_)
    · intro y0 y1 y2 y3 y4 y5 y6 y7 y8 y9 y10 y11 y12
      unfold bluebelllaw06_OcodeDown.j3
      repeat' first
      | (with_reducible exact ih0 _ _ _ _ _ _ _ _ _)
      | (with_reducible exact ih1 _ _ _ _ _ _ _ _ _ _ _)
      | (with_reducible exact ih2 _ _ _ _ _ _ _ _ _ _ _ _)
      | (with_reducible exact ih3 _ _ _ _ _ _ _ _ _ _ _ _ _)
      | (with_reducible exact bluebelllaw06_awake.mono _)
      | (with_reducible exact bluebelllaw06_heavy.mono _ _ _ _ _ _ _)
      | (with_reducible exact bluebellref06_After.mono _ _ _ _ _)
      | (with_reducible exact ocode_Check.mono _ _ _ _ _ _ _)
      | (with_reducible exact LeO.refl _)
      | (with_reducible exact LeO.none _)
      | (with_reducible refine LeO.ite ?_ ?_)
      | (with_reducible refine LeO.bind ?_ (fun _ => ?_))
      | exact ih0 _ _ _ _ _ _ _ _ _
      | exact ih1 _ _ _ _ _ _ _ _ _ _ _
      | exact ih2 _ _ _ _ _ _ _ _ _ _ _ _
      | exact ih3 _ _ _ _ _ _ _ _ _ _ _ _ _
      | exact bluebelllaw06_awake.mono _
      | exact bluebelllaw06_heavy.mono _ _ _ _ _ _ _
      | exact bluebellref06_After.mono _ _ _ _ _
      | exact ocode_Check.mono _ _ _ _ _ _ _
      | exact LeO.none _
      | refine LeO.ite ?_ ?_
      | refine LeO.bind ?_ (fun _ => ?_)
theorem bluebelllaw06_OcodeDown.mono : ∀ a0 a1 a2 a3 a4 a5 k, LeO (bluebelllaw06_OcodeDown.f k a0 a1 a2 a3 a4 a5) (bluebelllaw06_OcodeDown.f (k + 1) a0 a1 a2 a3 a4 a5) := by
  intro a0 a1 a2 a3 a4 a5 k
  obtain ⟨ih0, ih1, ih2, ih3⟩ := bluebelllaw06_OcodeDown.mono_l k
  unfold bluebelllaw06_OcodeDown.f
  repeat' first
      | (with_reducible exact ih0 _ _ _ _ _ _ _ _ _)
      | (with_reducible exact ih1 _ _ _ _ _ _ _ _ _ _ _)
      | (with_reducible exact ih2 _ _ _ _ _ _ _ _ _ _ _ _)
      | (with_reducible exact ih3 _ _ _ _ _ _ _ _ _ _ _ _ _)
      | (with_reducible exact bluebelllaw06_awake.mono _)
      | (with_reducible exact bluebelllaw06_heavy.mono _ _ _ _ _ _ _)
      | (with_reducible exact bluebellref06_After.mono _ _ _ _ _)
      | (with_reducible exact ocode_Check.mono _ _ _ _ _ _ _)
      | (with_reducible exact LeO.refl _)
      | (with_reducible exact LeO.none _)
      | (with_reducible refine LeO.ite ?_ ?_)
      | (with_reducible refine LeO.bind ?_ (fun _ => ?_))
      | exact ih0 _ _ _ _ _ _ _ _ _
      | exact ih1 _ _ _ _ _ _ _ _ _ _ _
      | exact ih2 _ _ _ _ _ _ _ _ _ _ _ _
      | exact ih3 _ _ _ _ _ _ _ _ _ _ _ _ _
      | exact bluebelllaw06_awake.mono _
      | exact bluebelllaw06_heavy.mono _ _ _ _ _ _ _
      | exact bluebellref06_After.mono _ _ _ _ _
      | exact ocode_Check.mono _ _ _ _ _ _ _
      | exact LeO.none _
      | refine LeO.ite ?_ ?_
      | refine LeO.bind ?_ (fun _ => ?_)
set_option maxHeartbeats 8000000 in
set_option maxRecDepth 100000 in
theorem bluebelllaw06_OcodeDown.calls (k : Nat) (a0_0 : ByteArray) (A0_1 : Option Addr) (c0_1 : Nat) (l0_1 : List (S47)) (A0_2 : Option Addr) (c0_2 : Nat) (l0_2 : List (S35)) (A0_3 : Option Addr) (c0_3 : Nat) (l0_3 : List (S68)) (a0_4 : Int) (a0_5 : Int) (r : Bool) (w : World) (hr0_1 : Kd.C k47 w A0_1 l0_1.length l0_1) (hc0_1 : l0_1.length ≤ c0_1) (hr0_2 : Kd.C k35 w A0_2 l0_2.length l0_2) (hc0_2 : l0_2.length ≤ c0_2) (hr0_3 : Kd.C k68 w A0_3 l0_3.length l0_3) (hc0_3 : l0_3.length ≤ c0_3) (h : bluebelllaw06_OcodeDown.f k a0_0 l0_1 l0_2 l0_3 a0_4 a0_5 = some r) :
    Calls Try.prog 5 #[.agg #[.string a0_0, .slice A0_1 l0_1.length c0_1, .slice A0_2 l0_2.length c0_2, .slice A0_3 l0_3.length c0_3, .int .i64 a0_4, .int .i64 a0_5]] w fun e w' => e = .returned (.bool r) ∧ Below w.heap.size w w' := by
  have hu26 := Try.underlying26
  have hu35 := Try.underlying35
  have HR0_1 := Aside0.mk hr0_1
  have HC0_1 := Aside0.mk hc0_1
  clear hr0_1 hc0_1
  have HR0_2 := Aside0.mk hr0_2
  have HC0_2 := Aside0.mk hc0_2
  clear hr0_2 hc0_2
  have HR0_3 := Aside0.mk hr0_3
  have HC0_3 := Aside0.mk hc0_3
  clear hr0_3 hc0_3
  have HB := Aside0.mk (Below.refl w.heap.size w)
  have H : ((bluebelllaw06_heavy.f k a0_0 l0_1 l0_2 l0_3 a0_4 a0_5).bind fun t328 => (if t328 = true then ((bluebelllaw06_awake.f k).bind fun t329 => (some t329)) else ((ocode_Depths.f a0_0 l0_1 l0_2 l0_3 a0_4 a0_5).bind fun bt330 => ((ocode_Room.f a0_0 l0_1 l0_2 l0_3 a0_4 a0_5).bind fun bt334 => (if bt330.2 = 0 then (if (bt330.1.length : Int) = (l0_2.length : Int) then (bluebelllaw06_OcodeDown.j0 k bt330.1 bt334.1 ((bt334.1.length : Int) != a0_4) a0_0 l0_1 l0_2 l0_3 a0_4 a0_5) else (bluebelllaw06_OcodeDown.j0 k bt330.1 bt334.1 true a0_0 l0_1 l0_2 l0_3 a0_4 a0_5)) else (if bt330.2 = bt334.2 then ((ocode_Check.f k a0_0 l0_1 l0_2 l0_3 a0_4 a0_5).bind fun t338 => (if bt330.2 = t338 then ((bluebelllaw06_awake.f k).bind fun t339 => (some t339)) else (some false))) else (some false))))))) = some r := h
  clear h
  replace H := Option.bind_eq_some_iff.mp H
  obtain ⟨t328, A20, H⟩ := H
  replace H : (if t328 = true then ((bluebelllaw06_awake.f k).bind fun t329 => (some t329)) else ((ocode_Depths.f a0_0 l0_1 l0_2 l0_3 a0_4 a0_5).bind fun bt330 => ((ocode_Room.f a0_0 l0_1 l0_2 l0_3 a0_4 a0_5).bind fun bt334 => (if bt330.2 = 0 then (if (bt330.1.length : Int) = (l0_2.length : Int) then (bluebelllaw06_OcodeDown.j0 k bt330.1 bt334.1 ((bt334.1.length : Int) != a0_4) a0_0 l0_1 l0_2 l0_3 a0_4 a0_5) else (bluebelllaw06_OcodeDown.j0 k bt330.1 bt334.1 true a0_0 l0_1 l0_2 l0_3 a0_4 a0_5)) else (if bt330.2 = bt334.2 then ((ocode_Check.f k a0_0 l0_1 l0_2 l0_3 a0_4 a0_5).bind fun t338 => (if bt330.2 = t338 then ((bluebelllaw06_awake.f k).bind fun t339 => (some t339)) else (some false))) else (some false)))))) = some r := H
  have A2 := Aside0.mk A20
  clear A20
  by_cases c3 : t328 = true
  · subst c3
    have H1 : ((bluebelllaw06_awake.f k).bind fun t329 => (some t329)) = some r := by rw [if_pos rfl] at H; exact H
    clear H
    have H := H1
    clear H1
    replace H := Option.bind_eq_some_iff.mp H
    obtain ⟨t329, A40, H⟩ := H
    replace H : (some t329) = some r := H
    have A4 := Aside0.mk A40
    clear A40
    obtain rfl := Option.some.inj H
    go_enter Try.func5, Try.ntmps5
    go_wp2_with (first | ((with_reducible refine gate_dst (N := 1) rfl ?_); (try (refine gate_guard (by rfl) ?_; dsimp only)); refine box_event ?hg (N := 1) ?hd (cs := #[.string a0_0, .slice A0_1 l0_1.length c0_1, .slice A0_2 l0_2.length c0_2, .slice A0_3 l0_3.length c0_3, .int .i64 a0_4, .int .i64 a0_5]) (t := 26) ?hr ?_; (case hd => rfl); (case hg => rfl); (case hr => first | (go_simp; done) | (go_simp; rfl)); intro gb327 hg w5 hbox hb; have n0_ := Aside0.mk (below_step (by repeat (first | (with_reducible first | exact HB.out | apply below_alloc | apply pw_below_drewN | apply below_drew1) | exact HB.out)) hb); have n1_ := Aside0.mk (hbox); have n2_ := Aside0.mk ((by rw [hg]; exact (below_size (by repeat (first | (with_reducible first | exact HB.out | apply below_alloc | apply pw_below_drewN | apply below_drew1) | exact HB.out))) : w.heap.size ≤ gb327)); have n3_ := Aside0.mk ((by rw [hg]; exact (below_size (by repeat (first | (with_reducible first | exact HB.out | apply below_alloc | apply pw_below_drewN | apply below_drew1) | exact HB.out))) : w.heap.size ≤ gb327)); clear HB; have HB := n0_; have BK327 := n1_; have GW327 := n2_; have GE327 := n3_; clear n0_ n1_ n2_ n3_; clear hb hbox hg; have hcz6_0 : w5.cell? ⟨gb327, 0, none⟩ = some (.string a0_0) := (blk_cell BK327.out 0).trans rfl; have hcz6_1 : w5.cell? ⟨gb327, 1, none⟩ = some (.slice A0_1 l0_1.length c0_1) := (blk_cell BK327.out 1).trans rfl; have hcz6_2 : w5.cell? ⟨gb327, 2, none⟩ = some (.slice A0_2 l0_2.length c0_2) := (blk_cell BK327.out 2).trans rfl; have hcz6_3 : w5.cell? ⟨gb327, 3, none⟩ = some (.slice A0_3 l0_3.length c0_3) := (blk_cell BK327.out 3).trans rfl; have hcz6_4 : w5.cell? ⟨gb327, 4, none⟩ = some (.int .i64 a0_4) := (blk_cell BK327.out 4).trans rfl; have hcz6_5 : w5.cell? ⟨gb327, 5, none⟩ = some (.int .i64 a0_5) := (blk_cell BK327.out 5).trans rfl; have hfz6_0 := blk_frozen BK327.out 0; have hfz6_1 := blk_frozen BK327.out 1; have hfz6_2 := blk_frozen BK327.out 2; have hfz6_3 := blk_frozen BK327.out 3; have hfz6_4 := blk_frozen BK327.out 4; have hfz6_5 := blk_frozen BK327.out 5) | ((with_reducible refine gate_callee (f := 12) rfl ?_); refine goesL_ (some 13) rfl rfl Try.func12 (by kernel_rfl) rfl #[.agg #[.string a0_0, .slice A0_1 l0_1.length c0_1, .slice A0_2 l0_2.length c0_2, .slice A0_3 l0_3.length c0_3, .int .i64 a0_4, .int .i64 a0_5]] rfl (by (try simp only [List.map_toArray, List.map_cons, List.map_nil]); first | done | rfl | (simp only [List.length_drop, List.length_take]; rfl)) ?_; (with_reducible refine (bluebelllaw06_heavy.calls k a0_0 _ _ l0_1 _ _ l0_2 _ _ l0_3 a0_4 a0_5 true _ ?side1 ?side2 ?side3 ?side4 ?side5 ?side6 A2.out).mono ?_); (case side1 => repeat (first | exact (Kd.C_below HR0_1.out HB.out) | (with_reducible refine Kd.C_alloc ?_ _) | (with_reducible refine Kd.C_drewN ?_ _) | (with_reducible refine Kd.C_drew ?_))); (case side2 => exact HC0_1.out); (case side3 => repeat (first | exact (Kd.C_below HR0_2.out HB.out) | (with_reducible refine Kd.C_alloc ?_ _) | (with_reducible refine Kd.C_drewN ?_ _) | (with_reducible refine Kd.C_drew ?_))); (case side4 => exact HC0_2.out); (case side5 => repeat (first | exact (Kd.C_below HR0_3.out HB.out) | (with_reducible refine Kd.C_alloc ?_ _) | (with_reducible refine Kd.C_drewN ?_ _) | (with_reducible refine Kd.C_drew ?_))); (case side6 => exact HC0_3.out); rintro e w7 ⟨rfl, hb⟩; refine ⟨_, rfl, ?_⟩; have n0_ := Aside0.mk (blk_below (g := gb327) (o := .cells #[.string a0_0, .slice A0_1 l0_1.length c0_1, .slice A0_2 l0_2.length c0_2, .slice A0_3 l0_3.length c0_3, .int .i64 a0_4, .int .i64 a0_5] 26 (0, 0)) (by (with_reducible repeat (first | refine blk_drewN ?_ _ | refine blk_drew ?_ | refine blk_alloc ?_ _)); exact BK327.out) hb); have n1_ := Aside0.mk (below_step (by repeat (first | (with_reducible first | exact HB.out | apply below_alloc | apply pw_below_drewN | apply below_drew1 | refine below_set ?_ GE327.out) | exact HB.out)) hb); clear BK327; clear HB; have BK327 := n0_; have HB := n1_; clear n0_ n1_; (try clear hb); (try clear hb2); (try clear hk); (try clear hi)) | ((with_reducible refine gate_callee (f := 13) rfl ?_); refine goesL_ (some 14) rfl rfl Try.func13 (by kernel_rfl) rfl #[] rfl (by (try simp only [List.map_toArray, List.map_cons, List.map_nil]); first | done | rfl | (simp only [List.length_drop, List.length_take]; rfl)) ?_; (with_reducible refine (bluebelllaw06_awake.calls k  t329 _ A4.out).mono ?_); rintro e w8 ⟨rfl, hb⟩; refine ⟨_, rfl, ?_⟩; have n0_ := Aside0.mk (blk_below (g := gb327) (o := .cells #[.string a0_0, .slice A0_1 l0_1.length c0_1, .slice A0_2 l0_2.length c0_2, .slice A0_3 l0_3.length c0_3, .int .i64 a0_4, .int .i64 a0_5] 26 (0, 0)) (by (with_reducible repeat (first | refine blk_drewN ?_ _ | refine blk_drew ?_ | refine blk_alloc ?_ _)); exact BK327.out) hb); have n1_ := Aside0.mk (below_step (by repeat (first | (with_reducible first | exact HB.out | apply below_alloc | apply pw_below_drewN | apply below_drew1 | refine below_set ?_ GE327.out) | exact HB.out)) hb); clear BK327; clear HB; have BK327 := n0_; have HB := n1_; clear n0_ n1_; (try clear hb); (try clear hb2); (try clear hk); (try clear hi)))
    go_ret
    exact ⟨by first | rfl | (simp [errW_none, errW_some] <;> rfl) | (simp [*, errW_none, errW_some] <;> rfl), by repeat (first | (with_reducible first | exact HB.out | apply below_alloc | apply pw_below_drewN | apply below_drew1 | refine below_set ?_ GE327.out) | exact HB.out)⟩
  · replace c3 := Bool.eq_false_iff.mpr c3
    subst c3
    have H1 : ((ocode_Depths.f a0_0 l0_1 l0_2 l0_3 a0_4 a0_5).bind fun bt330 => ((ocode_Room.f a0_0 l0_1 l0_2 l0_3 a0_4 a0_5).bind fun bt334 => (if bt330.2 = 0 then (if (bt330.1.length : Int) = (l0_2.length : Int) then (bluebelllaw06_OcodeDown.j0 k bt330.1 bt334.1 ((bt334.1.length : Int) != a0_4) a0_0 l0_1 l0_2 l0_3 a0_4 a0_5) else (bluebelllaw06_OcodeDown.j0 k bt330.1 bt334.1 true a0_0 l0_1 l0_2 l0_3 a0_4 a0_5)) else (if bt330.2 = bt334.2 then ((ocode_Check.f k a0_0 l0_1 l0_2 l0_3 a0_4 a0_5).bind fun t338 => (if bt330.2 = t338 then ((bluebelllaw06_awake.f k).bind fun t339 => (some t339)) else (some false))) else (some false))))) = some r := by rw [if_neg (show ¬ (false = true) by decide)] at H; exact H
    clear H
    have H := H1
    clear H1
    replace H := Option.bind_eq_some_iff.mp H
    obtain ⟨⟨t330, t333⟩, A90, H⟩ := H
    replace H : ((ocode_Room.f a0_0 l0_1 l0_2 l0_3 a0_4 a0_5).bind fun bt334 => (if t333 = 0 then (if (t330.length : Int) = (l0_2.length : Int) then (bluebelllaw06_OcodeDown.j0 k t330 bt334.1 ((bt334.1.length : Int) != a0_4) a0_0 l0_1 l0_2 l0_3 a0_4 a0_5) else (bluebelllaw06_OcodeDown.j0 k t330 bt334.1 true a0_0 l0_1 l0_2 l0_3 a0_4 a0_5)) else (if t333 = bt334.2 then ((ocode_Check.f k a0_0 l0_1 l0_2 l0_3 a0_4 a0_5).bind fun t338 => (if t333 = t338 then ((bluebelllaw06_awake.f k).bind fun t339 => (some t339)) else (some false))) else (some false)))) = some r := H
    have A9 := Aside0.mk A90
    clear A90
    replace H := Option.bind_eq_some_iff.mp H
    obtain ⟨⟨t334, t337⟩, A100, H⟩ := H
    replace H : (if t333 = 0 then (if (t330.length : Int) = (l0_2.length : Int) then (bluebelllaw06_OcodeDown.j0 k t330 t334 ((t334.length : Int) != a0_4) a0_0 l0_1 l0_2 l0_3 a0_4 a0_5) else (bluebelllaw06_OcodeDown.j0 k t330 t334 true a0_0 l0_1 l0_2 l0_3 a0_4 a0_5)) else (if t333 = t337 then ((ocode_Check.f k a0_0 l0_1 l0_2 l0_3 a0_4 a0_5).bind fun t338 => (if t333 = t338 then ((bluebelllaw06_awake.f k).bind fun t339 => (some t339)) else (some false))) else (some false))) = some r := H
    have A10 := Aside0.mk A100
    clear A100
    by_cases c11 : t333 = 0
    · rw [if_pos c11] at H
      have c11b0 : (t333 == 0) = true := beq_iff_eq.mpr c11
      have c11b1 : (t333 != 0) = false := bne_eq_false_iff_eq.mpr c11
      clear c11
      have HC12 := Aside0.mk H
      clear H
      go_enter Try.func5, Try.ntmps5
      go_upto_region 7 with (first | ((with_reducible refine gate_dst (N := 1) rfl ?_); (try (refine gate_guard (by rfl) ?_; dsimp only)); refine box_event ?hg (N := 1) ?hd (cs := #[.string a0_0, .slice A0_1 l0_1.length c0_1, .slice A0_2 l0_2.length c0_2, .slice A0_3 l0_3.length c0_3, .int .i64 a0_4, .int .i64 a0_5]) (t := 26) ?hr ?_; (case hd => rfl); (case hg => rfl); (case hr => first | (go_simp; done) | (go_simp; rfl)); intro gb327 hg w13 hbox hb; have n0_ := Aside0.mk (below_step (by repeat (first | (with_reducible first | exact HB.out | apply below_alloc | apply pw_below_drewN | apply below_drew1) | exact HB.out)) hb); have n1_ := Aside0.mk (hbox); have n2_ := Aside0.mk ((by rw [hg]; exact (below_size (by repeat (first | (with_reducible first | exact HB.out | apply below_alloc | apply pw_below_drewN | apply below_drew1) | exact HB.out))) : w.heap.size ≤ gb327)); have n3_ := Aside0.mk ((by rw [hg]; exact (below_size (by repeat (first | (with_reducible first | exact HB.out | apply below_alloc | apply pw_below_drewN | apply below_drew1) | exact HB.out))) : w.heap.size ≤ gb327)); clear HB; have HB := n0_; have BK327 := n1_; have GW327 := n2_; have GE327 := n3_; clear n0_ n1_ n2_ n3_; clear hb hbox hg; have hcz14_0 : w13.cell? ⟨gb327, 0, none⟩ = some (.string a0_0) := (blk_cell BK327.out 0).trans rfl; have hcz14_1 : w13.cell? ⟨gb327, 1, none⟩ = some (.slice A0_1 l0_1.length c0_1) := (blk_cell BK327.out 1).trans rfl; have hcz14_2 : w13.cell? ⟨gb327, 2, none⟩ = some (.slice A0_2 l0_2.length c0_2) := (blk_cell BK327.out 2).trans rfl; have hcz14_3 : w13.cell? ⟨gb327, 3, none⟩ = some (.slice A0_3 l0_3.length c0_3) := (blk_cell BK327.out 3).trans rfl; have hcz14_4 : w13.cell? ⟨gb327, 4, none⟩ = some (.int .i64 a0_4) := (blk_cell BK327.out 4).trans rfl; have hcz14_5 : w13.cell? ⟨gb327, 5, none⟩ = some (.int .i64 a0_5) := (blk_cell BK327.out 5).trans rfl; have hfz14_0 := blk_frozen BK327.out 0; have hfz14_1 := blk_frozen BK327.out 1; have hfz14_2 := blk_frozen BK327.out 2; have hfz14_3 := blk_frozen BK327.out 3; have hfz14_4 := blk_frozen BK327.out 4; have hfz14_5 := blk_frozen BK327.out 5) | ((with_reducible refine gate_callee (f := 12) rfl ?_); refine goesL_ (some 13) rfl rfl Try.func12 (by kernel_rfl) rfl #[.agg #[.string a0_0, .slice A0_1 l0_1.length c0_1, .slice A0_2 l0_2.length c0_2, .slice A0_3 l0_3.length c0_3, .int .i64 a0_4, .int .i64 a0_5]] rfl (by (try simp only [List.map_toArray, List.map_cons, List.map_nil]); first | done | rfl | (simp only [List.length_drop, List.length_take]; rfl)) ?_; (with_reducible refine (bluebelllaw06_heavy.calls k a0_0 _ _ l0_1 _ _ l0_2 _ _ l0_3 a0_4 a0_5 false _ ?side1 ?side2 ?side3 ?side4 ?side5 ?side6 A2.out).mono ?_); (case side1 => repeat (first | exact (Kd.C_below HR0_1.out HB.out) | (with_reducible refine Kd.C_alloc ?_ _) | (with_reducible refine Kd.C_drewN ?_ _) | (with_reducible refine Kd.C_drew ?_))); (case side2 => exact HC0_1.out); (case side3 => repeat (first | exact (Kd.C_below HR0_2.out HB.out) | (with_reducible refine Kd.C_alloc ?_ _) | (with_reducible refine Kd.C_drewN ?_ _) | (with_reducible refine Kd.C_drew ?_))); (case side4 => exact HC0_2.out); (case side5 => repeat (first | exact (Kd.C_below HR0_3.out HB.out) | (with_reducible refine Kd.C_alloc ?_ _) | (with_reducible refine Kd.C_drewN ?_ _) | (with_reducible refine Kd.C_drew ?_))); (case side6 => exact HC0_3.out); rintro e w15 ⟨rfl, hb⟩; refine ⟨_, rfl, ?_⟩; have n0_ := Aside0.mk (blk_below (g := gb327) (o := .cells #[.string a0_0, .slice A0_1 l0_1.length c0_1, .slice A0_2 l0_2.length c0_2, .slice A0_3 l0_3.length c0_3, .int .i64 a0_4, .int .i64 a0_5] 26 (0, 0)) (by (with_reducible repeat (first | refine blk_drewN ?_ _ | refine blk_drew ?_ | refine blk_alloc ?_ _)); exact BK327.out) hb); have n1_ := Aside0.mk (below_step (by repeat (first | (with_reducible first | exact HB.out | apply below_alloc | apply pw_below_drewN | apply below_drew1 | refine below_set ?_ GE327.out) | exact HB.out)) hb); clear BK327; clear HB; have BK327 := n0_; have HB := n1_; clear n0_ n1_; (try clear hb); (try clear hb2); (try clear hk); (try clear hi); have hcz16_0 : w15.cell? ⟨gb327, 0, none⟩ = some (.string a0_0) := (blk_cell BK327.out 0).trans rfl; have hcz16_1 : w15.cell? ⟨gb327, 1, none⟩ = some (.slice A0_1 l0_1.length c0_1) := (blk_cell BK327.out 1).trans rfl; have hcz16_2 : w15.cell? ⟨gb327, 2, none⟩ = some (.slice A0_2 l0_2.length c0_2) := (blk_cell BK327.out 2).trans rfl; have hcz16_3 : w15.cell? ⟨gb327, 3, none⟩ = some (.slice A0_3 l0_3.length c0_3) := (blk_cell BK327.out 3).trans rfl; have hcz16_4 : w15.cell? ⟨gb327, 4, none⟩ = some (.int .i64 a0_4) := (blk_cell BK327.out 4).trans rfl; have hcz16_5 : w15.cell? ⟨gb327, 5, none⟩ = some (.int .i64 a0_5) := (blk_cell BK327.out 5).trans rfl; have hfz16_0 := blk_frozen BK327.out 0; have hfz16_1 := blk_frozen BK327.out 1; have hfz16_2 := blk_frozen BK327.out 2; have hfz16_3 := blk_frozen BK327.out 3; have hfz16_4 := blk_frozen BK327.out 4; have hfz16_5 := blk_frozen BK327.out 5) | ((with_reducible refine gate_callee (f := 16) rfl ?_); refine goesL_ (some 17) rfl rfl Try.func16 (by kernel_rfl) rfl #[.agg #[.string a0_0, .slice A0_1 l0_1.length c0_1, .slice A0_2 l0_2.length c0_2, .slice A0_3 l0_3.length c0_3, .int .i64 a0_4, .int .i64 a0_5]] rfl (by (try simp only [List.map_toArray, List.map_cons, List.map_nil]); first | done | rfl | (simp only [List.length_drop, List.length_take]; rfl)) ?_; (with_reducible refine (ocode_Depths.calls a0_0 _ _ l0_1 _ _ l0_2 _ _ l0_3 a0_4 a0_5 t330 t333 _ ?side1 ?side2 ?side3 ?side4 ?side5 ?side6 A9.out).mono ?_); (case side1 => repeat (first | exact (Kd.C_below HR0_1.out HB.out) | (with_reducible refine Kd.C_alloc ?_ _) | (with_reducible refine Kd.C_drewN ?_ _) | (with_reducible refine Kd.C_drew ?_))); (case side2 => exact HC0_1.out); (case side3 => repeat (first | exact (Kd.C_below HR0_2.out HB.out) | (with_reducible refine Kd.C_alloc ?_ _) | (with_reducible refine Kd.C_drewN ?_ _) | (with_reducible refine Kd.C_drew ?_))); (case side4 => exact HC0_2.out); (case side5 => repeat (first | exact (Kd.C_below HR0_3.out HB.out) | (with_reducible refine Kd.C_alloc ?_ _) | (with_reducible refine Kd.C_drewN ?_ _) | (with_reducible refine Kd.C_drew ?_))); (case side6 => exact HC0_3.out); rintro e w17 ⟨v331, rfl, ho0, hb⟩; refine ⟨_, rfl, ?_⟩; have n0_ := Aside0.mk (Kd.R_lower ho0 (below_size (by repeat (first | (with_reducible first | exact HB.out | apply below_alloc | apply pw_below_drewN | apply below_drew1 | refine below_set ?_ GE327.out) | exact HB.out)))); have n1_ := Aside0.mk (blk_below (g := gb327) (o := .cells #[.string a0_0, .slice A0_1 l0_1.length c0_1, .slice A0_2 l0_2.length c0_2, .slice A0_3 l0_3.length c0_3, .int .i64 a0_4, .int .i64 a0_5] 26 (0, 0)) (by (with_reducible repeat (first | refine blk_drewN ?_ _ | refine blk_drew ?_ | refine blk_alloc ?_ _)); exact BK327.out) hb); have n2_ := Aside0.mk (below_step (by repeat (first | (with_reducible first | exact HB.out | apply below_alloc | apply pw_below_drewN | apply below_drew1 | refine below_set ?_ GE327.out) | exact HB.out)) hb); clear BK327; clear HB; have HO332 := n0_; have BK327 := n1_; have HB := n2_; clear n0_ n1_ n2_; (try clear hb); (try clear hb2); (try clear hk); (try clear hi); (try clear ho0); have hcz18_0 : w17.cell? ⟨gb327, 0, none⟩ = some (.string a0_0) := (blk_cell BK327.out 0).trans rfl; have hcz18_1 : w17.cell? ⟨gb327, 1, none⟩ = some (.slice A0_1 l0_1.length c0_1) := (blk_cell BK327.out 1).trans rfl; have hcz18_2 : w17.cell? ⟨gb327, 2, none⟩ = some (.slice A0_2 l0_2.length c0_2) := (blk_cell BK327.out 2).trans rfl; have hcz18_3 : w17.cell? ⟨gb327, 3, none⟩ = some (.slice A0_3 l0_3.length c0_3) := (blk_cell BK327.out 3).trans rfl; have hcz18_4 : w17.cell? ⟨gb327, 4, none⟩ = some (.int .i64 a0_4) := (blk_cell BK327.out 4).trans rfl; have hcz18_5 : w17.cell? ⟨gb327, 5, none⟩ = some (.int .i64 a0_5) := (blk_cell BK327.out 5).trans rfl; have hfz18_0 := blk_frozen BK327.out 0; have hfz18_1 := blk_frozen BK327.out 1; have hfz18_2 := blk_frozen BK327.out 2; have hfz18_3 := blk_frozen BK327.out 3; have hfz18_4 := blk_frozen BK327.out 4; have hfz18_5 := blk_frozen BK327.out 5) | ((with_reducible refine gate_callee (f := 18) rfl ?_); refine goesL_ (some 22) rfl rfl Try.func18 (by kernel_rfl) rfl #[.agg #[.string a0_0, .slice A0_1 l0_1.length c0_1, .slice A0_2 l0_2.length c0_2, .slice A0_3 l0_3.length c0_3, .int .i64 a0_4, .int .i64 a0_5]] rfl (by (try simp only [List.map_toArray, List.map_cons, List.map_nil]); first | done | rfl | (simp only [List.length_drop, List.length_take]; rfl)) ?_; (with_reducible refine (ocode_Room.calls a0_0 _ _ l0_1 _ _ l0_2 _ _ l0_3 a0_4 a0_5 t334 t337 _ ?side1 ?side2 ?side3 ?side4 ?side5 ?side6 A10.out).mono ?_); (case side1 => repeat (first | exact (Kd.C_below HR0_1.out HB.out) | (with_reducible refine Kd.C_alloc ?_ _) | (with_reducible refine Kd.C_drewN ?_ _) | (with_reducible refine Kd.C_drew ?_))); (case side2 => exact HC0_1.out); (case side3 => repeat (first | exact (Kd.C_below HR0_2.out HB.out) | (with_reducible refine Kd.C_alloc ?_ _) | (with_reducible refine Kd.C_drewN ?_ _) | (with_reducible refine Kd.C_drew ?_))); (case side4 => exact HC0_2.out); (case side5 => repeat (first | exact (Kd.C_below HR0_3.out HB.out) | (with_reducible refine Kd.C_alloc ?_ _) | (with_reducible refine Kd.C_drewN ?_ _) | (with_reducible refine Kd.C_drew ?_))); (case side6 => exact HC0_3.out); rintro e w19 ⟨v335, rfl, ho0, hb⟩; refine ⟨_, rfl, ?_⟩; have n0_ := Aside0.mk (Kd.R_elder' (by (with_reducible repeat (first | apply Kd.R_alloc | apply Kd.R_drewN | apply Kd.R_drew)); exact HO332.out) (Kd.R_base ho0) hb); have n1_ := Aside0.mk (Kd.R_lower (Kd.R_new' ho0 (Kd.R_lt (by (with_reducible repeat (first | apply Kd.R_alloc | apply Kd.R_drewN | apply Kd.R_drew)); exact HO332.out))) (below_size (by repeat (first | (with_reducible first | exact HB.out | apply below_alloc | apply pw_below_drewN | apply below_drew1 | refine below_set ?_ GE327.out) | exact HB.out)))); have n2_ := Aside0.mk (blk_below (g := gb327) (o := .cells #[.string a0_0, .slice A0_1 l0_1.length c0_1, .slice A0_2 l0_2.length c0_2, .slice A0_3 l0_3.length c0_3, .int .i64 a0_4, .int .i64 a0_5] 26 (0, 0)) (by (with_reducible repeat (first | refine blk_drewN ?_ _ | refine blk_drew ?_ | refine blk_alloc ?_ _)); exact BK327.out) hb); have n3_ := Aside0.mk (below_step (by repeat (first | (with_reducible first | exact HB.out | apply below_alloc | apply pw_below_drewN | apply below_drew1 | refine below_set ?_ GE327.out) | exact HB.out)) hb); clear HO332; clear BK327; clear HB; have HO332 := n0_; have HO336 := n1_; have BK327 := n2_; have HB := n3_; clear n0_ n1_ n2_ n3_; (try clear hb); (try clear hb2); (try clear hk); (try clear hi); (try clear ho0)))
      (try simp only [Act.put, List.setIfInBounds_toArray, List.set_cons_zero, List.set_cons_succ])
      go_cut [51] (fun v51 wc => ∃ (kq : Nat) (x51_11 : Bool), v51 = .bool x51_11 ∧ Aside0 (bluebelllaw06_OcodeDown.j0 kq t330 t334 x51_11 a0_0 l0_1 l0_2 l0_3 a0_4 a0_5 = some r) ∧ Aside0 (kq ≤ k) ∧ Aside0 (Kd.R (Kd.int .i64) 3 wc w.heap.size (fun k_ => some k_ ≠ (v335 : Value).ownBlock) v331 t330) ∧ Aside0 (Kd.R (Kd.int .i64) 3 wc w.heap.size (fun k_ => some k_ ≠ (v331 : Value).ownBlock) v335 t334) ∧ Aside0 (wc.heap[gb327]? = some (.cells #[.string a0_0, (.slice A0_1 l0_1.length c0_1), (.slice A0_2 l0_2.length c0_2), (.slice A0_3 l0_3.length c0_3), .int .i64 a0_4, .int .i64 a0_5] 26 (0, 0))) ∧ Aside0 (Below w.heap.size w wc))
      case first =>
        have H := HC12.out
        clear HC12
        by_cases c20 : (t330.length : Int) = (l0_2.length : Int)
        · rw [if_pos c20] at H
          have c20b0 : ((t330.length : Int) == (l0_2.length : Int)) = true := beq_iff_eq.mpr c20
          have c20b1 : ((t330.length : Int) != (l0_2.length : Int)) = false := bne_eq_false_iff_eq.mpr c20
          have c20b2 : (t330.length == l0_2.length) = true := by first | simpa using c20 | (simp at c20 ⊢; omega)
          clear c20
          (first | rw [c20b0] | (simp only [i64_w, i32_w]; rw [c20b0]) | skip)
          have H' := Aside0.mk H
          clear H
          obtain ⟨Ao21, co21, eo21⟩ := Kd.R_slice HO332.out
          subst eo21
          have hcz22_0 : w19.cell? ⟨gb327, 0, none⟩ = some (.string a0_0) := (blk_cell BK327.out 0).trans rfl
          have hcz22_1 : w19.cell? ⟨gb327, 1, none⟩ = some (.slice A0_1 l0_1.length c0_1) := (blk_cell BK327.out 1).trans rfl
          have hcz22_2 : w19.cell? ⟨gb327, 2, none⟩ = some (.slice A0_2 l0_2.length c0_2) := (blk_cell BK327.out 2).trans rfl
          have hcz22_3 : w19.cell? ⟨gb327, 3, none⟩ = some (.slice A0_3 l0_3.length c0_3) := (blk_cell BK327.out 3).trans rfl
          have hcz22_4 : w19.cell? ⟨gb327, 4, none⟩ = some (.int .i64 a0_4) := (blk_cell BK327.out 4).trans rfl
          have hcz22_5 : w19.cell? ⟨gb327, 5, none⟩ = some (.int .i64 a0_5) := (blk_cell BK327.out 5).trans rfl
          have hfz22_0 := blk_frozen BK327.out 0
          have hfz22_1 := blk_frozen BK327.out 1
          have hfz22_2 := blk_frozen BK327.out 2
          have hfz22_3 := blk_frozen BK327.out 3
          have hfz22_4 := blk_frozen BK327.out 4
          have hfz22_5 := blk_frozen BK327.out 5
          obtain ⟨Ao23, co23, eo23⟩ := Kd.R_slice HO336.out
          subst eo23
          go_wp2
          (first | go_meet | (refine Met.intro ?_; go_step; (repeat apply Exists.intro); refine ⟨?rel, ?fr_⟩; (case fr_ => first | (simp only [c20b2, c20b1, c20b0]; done) | (simp only [c20b2, c20b1, c20b0]; rfl) | (simp only [c20b2, c20b1, c20b0]; rfl))))
          case rel => exact ⟨_, (((t334.length : Int) != a0_4)), (by first | rfl | (simp; done) | (simp [*]; done)), H', ⟨by first | omega | exact Nat.le_refl _⟩, ⟨by (with_reducible repeat (first | apply Kd.R_alloc | apply Kd.R_drewN | apply Kd.R_drew)); exact Kd.R_mono HO332.out (fun _ hk => hk.2)⟩, ⟨by (with_reducible repeat (first | apply Kd.R_alloc | apply Kd.R_drewN | apply Kd.R_drew)); exact Kd.R_mono HO336.out (fun _ hk => hk.2)⟩, ⟨by (with_reducible repeat (first | refine blk_drewN ?_ _ | refine blk_drew ?_ | refine blk_alloc ?_ _)); exact BK327.out⟩, ⟨by repeat (first | (with_reducible first | exact HB.out | apply below_alloc | apply pw_below_drewN | apply below_drew1 | refine below_set ?_ GE327.out) | exact HB.out)⟩⟩
        · rw [if_neg c20] at H
          have c20b0 : ((t330.length : Int) == (l0_2.length : Int)) = false := beq_eq_false_iff_ne.mpr c20
          have c20b1 : ((t330.length : Int) != (l0_2.length : Int)) = true := bne_iff_ne.mpr c20
          have c20b2 : (t330.length == l0_2.length) = false := by first | simpa using c20 | (simp at c20 ⊢; omega)
          (first | rw [c20b0] | (simp only [i64_w, i32_w]; rw [c20b0]) | skip)
          have H' := Aside0.mk H
          clear H
          obtain ⟨Ao24, co24, eo24⟩ := Kd.R_slice HO332.out
          subst eo24
          have hcz25_0 : w19.cell? ⟨gb327, 0, none⟩ = some (.string a0_0) := (blk_cell BK327.out 0).trans rfl
          have hcz25_1 : w19.cell? ⟨gb327, 1, none⟩ = some (.slice A0_1 l0_1.length c0_1) := (blk_cell BK327.out 1).trans rfl
          have hcz25_2 : w19.cell? ⟨gb327, 2, none⟩ = some (.slice A0_2 l0_2.length c0_2) := (blk_cell BK327.out 2).trans rfl
          have hcz25_3 : w19.cell? ⟨gb327, 3, none⟩ = some (.slice A0_3 l0_3.length c0_3) := (blk_cell BK327.out 3).trans rfl
          have hcz25_4 : w19.cell? ⟨gb327, 4, none⟩ = some (.int .i64 a0_4) := (blk_cell BK327.out 4).trans rfl
          have hcz25_5 : w19.cell? ⟨gb327, 5, none⟩ = some (.int .i64 a0_5) := (blk_cell BK327.out 5).trans rfl
          have hfz25_0 := blk_frozen BK327.out 0
          have hfz25_1 := blk_frozen BK327.out 1
          have hfz25_2 := blk_frozen BK327.out 2
          have hfz25_3 := blk_frozen BK327.out 3
          have hfz25_4 := blk_frozen BK327.out 4
          have hfz25_5 := blk_frozen BK327.out 5
          go_wp2
          (first | go_meet | (refine Met.intro ?_; go_step; (repeat apply Exists.intro); refine ⟨?rel, ?fr_⟩; (case fr_ => first | (simp only [c20b2, c20b1, c20b0]; done) | (simp only [c20b2, c20b1, c20b0]; rfl) | (simp only [c20b2, c20b1, c20b0]; rfl))))
          case rel => exact ⟨_, (true), (by first | rfl | (simp; done) | (simp [*]; done)), H', ⟨by first | omega | exact Nat.le_refl _⟩, ⟨by (with_reducible repeat (first | apply Kd.R_alloc | apply Kd.R_drewN | apply Kd.R_drew)); exact Kd.R_mono HO332.out (fun _ hk => hk.2)⟩, ⟨by (with_reducible repeat (first | apply Kd.R_alloc | apply Kd.R_drewN | apply Kd.R_drew)); exact Kd.R_mono HO336.out (fun _ hk => hk.2)⟩, ⟨by (with_reducible repeat (first | refine blk_drewN ?_ _ | refine blk_drew ?_ | refine blk_alloc ?_ _)); exact BK327.out⟩, ⟨by repeat (first | (with_reducible first | exact HB.out | apply below_alloc | apply pw_below_drewN | apply below_drew1 | refine below_set ?_ GE327.out) | exact HB.out)⟩⟩
      case rest =>
        clear HC12
        try clear c1
        try clear c2
        try clear p2
        try clear c3
        try clear c5
        try clear c11
        try clear c11b0
        try clear c11b1
        try clear c12
        try clear c13
        try clear c16
        try clear c18
        try clear c20
        try clear c20b0
        try clear c20b1
        try clear c20b2
        try clear hcz14_0
        try clear hcz14_1
        try clear hcz14_2
        try clear hcz14_3
        try clear hcz14_4
        try clear hcz14_5
        try clear hcz16_0
        try clear hcz16_1
        try clear hcz16_2
        try clear hcz16_3
        try clear hcz16_4
        try clear hcz16_5
        try clear hcz18_0
        try clear hcz18_1
        try clear hcz18_2
        try clear hcz18_3
        try clear hcz18_4
        try clear hcz18_5
        try clear hcz22_0
        try clear hcz22_1
        try clear hcz22_2
        try clear hcz22_3
        try clear hcz22_4
        try clear hcz22_5
        try clear hcz25_0
        try clear hcz25_1
        try clear hcz25_2
        try clear hcz25_3
        try clear hcz25_4
        try clear hcz25_5
        try clear hcz6_0
        try clear hcz6_1
        try clear hcz6_2
        try clear hcz6_3
        try clear hcz6_4
        try clear hcz6_5
        try clear hfz14_0
        try clear hfz14_1
        try clear hfz14_2
        try clear hfz14_3
        try clear hfz14_4
        try clear hfz14_5
        try clear hfz16_0
        try clear hfz16_1
        try clear hfz16_2
        try clear hfz16_3
        try clear hfz16_4
        try clear hfz16_5
        try clear hfz18_0
        try clear hfz18_1
        try clear hfz18_2
        try clear hfz18_3
        try clear hfz18_4
        try clear hfz18_5
        try clear hfz22_0
        try clear hfz22_1
        try clear hfz22_2
        try clear hfz22_3
        try clear hfz22_4
        try clear hfz22_5
        try clear hfz25_0
        try clear hfz25_1
        try clear hfz25_2
        try clear hfz25_3
        try clear hfz25_4
        try clear hfz25_5
        try clear hfz6_0
        try clear hfz6_1
        try clear hfz6_2
        try clear hfz6_3
        try clear hfz6_4
        try clear hfz6_5
        obtain ⟨kq, x51_11, rfl, HA, HJ11, HO_3, HO_5, BK327, HB⟩ := hcut
        cases kq with
        | zero => exact absurd HA.out (by simp [bluebelllaw06_OcodeDown.j0])
        | succ kj11 =>
          have H := HA.out
          clear HA
          simp only [bluebelllaw06_OcodeDown.j0] at H
          by_cases c26 : x51_11 = true
          · subst c26
            have H1 : (some false) = some r := by rw [if_pos rfl] at H; exact H
            clear H
            have H := H1
            clear H1
            obtain rfl := Option.some.inj H
            go_wp2
            go_ret
            exact ⟨by first | rfl | (simp [errW_none, errW_some] <;> rfl) | (simp [*, errW_none, errW_some] <;> rfl), by repeat (first | (with_reducible first | exact HB.out | apply below_alloc | apply pw_below_drewN | apply below_drew1 | refine below_set ?_ GE327.out) | exact HB.out)⟩
          · replace c26 := Bool.eq_false_iff.mpr c26
            subst c26
            have H1 : (bluebelllaw06_OcodeDown.l0 kj11 t330 t334 0 0 0 a0_0 l0_1 l0_2 l0_3 a0_4 a0_5) = some r := by rw [if_neg (show ¬ (false = true) by decide)] at H; exact H
            clear H
            have H := H1
            clear H1
            have H' := Aside0.mk H
            clear H
            go_wp2
            go_loopg [7, 8, 9] kj11 (fun kq v7 v8 v9 w' => ∃ (x7_2 : Int) (x8_2 : Int) (x9_2 : Int), v7 = .int .i64 x7_2 ∧ v8 = .int .i64 x8_2 ∧ v9 = .int .i64 x9_2 ∧ Aside0 (bluebelllaw06_OcodeDown.l0 kq t330 t334 x7_2 x8_2 x9_2 a0_0 l0_1 l0_2 l0_3 a0_4 a0_5 = some r) ∧ Aside0 (kq ≤ kj11) ∧ Aside0 (Kd.R (Kd.int .i64) 3 w' w.heap.size (fun k_ => some k_ ≠ (v335 : Value).ownBlock) v331 t330) ∧ Aside0 (Kd.R (Kd.int .i64) 3 w' w.heap.size (fun k_ => some k_ ≠ (v331 : Value).ownBlock) v335 t334) ∧ Aside0 (w'.heap[gb327]? = some (.cells #[.string a0_0, (.slice A0_1 l0_1.length c0_1), (.slice A0_2 l0_2.length c0_2), (.slice A0_3 l0_3.length c0_3), .int .i64 a0_4, .int .i64 a0_5] 26 (0, 0))) ∧ Aside0 (Below w.heap.size w w'))
            case atStart => exact ⟨(0), (0), (0), (by first | rfl | (simp; done) | (simp [*]; done)), (by first | rfl | (simp; done) | (simp [*]; done)), (by first | rfl | (simp; done) | (simp [*]; done)), H', ⟨Nat.le_refl _⟩, ⟨by (with_reducible repeat (first | apply Kd.R_alloc | apply Kd.R_drewN | apply Kd.R_drew)); exact HO_3.out⟩, ⟨by (with_reducible repeat (first | apply Kd.R_alloc | apply Kd.R_drewN | apply Kd.R_drew)); exact HO_5.out⟩, ⟨by (with_reducible repeat (first | refine blk_drewN ?_ _ | refine blk_drew ?_ | refine blk_alloc ?_ _)); exact BK327.out⟩, ⟨by repeat (first | (with_reducible first | exact HB.out | apply below_alloc | apply pw_below_drewN | apply below_drew1 | refine below_set ?_ GE327.out) | exact HB.out)⟩⟩
            case round =>
              clear H'
              try clear c1
              try clear c2
              try clear p2
              try clear c3
              try clear c5
              try clear c11
              try clear c11b0
              try clear c11b1
              try clear c12
              try clear c13
              try clear c16
              try clear c18
              try clear c20
              try clear c20b0
              try clear c20b1
              try clear c20b2
              try clear c26
              try clear hcz14_0
              try clear hcz14_1
              try clear hcz14_2
              try clear hcz14_3
              try clear hcz14_4
              try clear hcz14_5
              try clear hcz16_0
              try clear hcz16_1
              try clear hcz16_2
              try clear hcz16_3
              try clear hcz16_4
              try clear hcz16_5
              try clear hcz18_0
              try clear hcz18_1
              try clear hcz18_2
              try clear hcz18_3
              try clear hcz18_4
              try clear hcz18_5
              try clear hcz22_0
              try clear hcz22_1
              try clear hcz22_2
              try clear hcz22_3
              try clear hcz22_4
              try clear hcz22_5
              try clear hcz25_0
              try clear hcz25_1
              try clear hcz25_2
              try clear hcz25_3
              try clear hcz25_4
              try clear hcz25_5
              try clear hcz6_0
              try clear hcz6_1
              try clear hcz6_2
              try clear hcz6_3
              try clear hcz6_4
              try clear hcz6_5
              try clear hfz14_0
              try clear hfz14_1
              try clear hfz14_2
              try clear hfz14_3
              try clear hfz14_4
              try clear hfz14_5
              try clear hfz16_0
              try clear hfz16_1
              try clear hfz16_2
              try clear hfz16_3
              try clear hfz16_4
              try clear hfz16_5
              try clear hfz18_0
              try clear hfz18_1
              try clear hfz18_2
              try clear hfz18_3
              try clear hfz18_4
              try clear hfz18_5
              try clear hfz22_0
              try clear hfz22_1
              try clear hfz22_2
              try clear hfz22_3
              try clear hfz22_4
              try clear hfz22_5
              try clear hfz25_0
              try clear hfz25_1
              try clear hfz25_2
              try clear hfz25_3
              try clear hfz25_4
              try clear hfz25_5
              try clear hfz6_0
              try clear hfz6_1
              try clear hfz6_2
              try clear hfz6_3
              try clear hfz6_4
              try clear hfz6_5
              try clear p2
              obtain ⟨x7_2, x8_2, x9_2, rfl, rfl, rfl, HA, HK2, HO_3, HO_5, BK327, HB⟩ := hrel
              cases gk with
              | zero => exact absurd HA.out (by simp [bluebelllaw06_OcodeDown.l0])
              | succ k2 =>
                have H := HA.out
                clear HA
                simp only [bluebelllaw06_OcodeDown.l0] at H
                by_cases c27 : x9_2 < (t330.length : Int)
                · rw [if_pos c27] at H
                  have c27b0 : decide (x9_2 < (t330.length : Int)) = true := decide_eq_true c27
                  clear c27
                  by_cases c28 : 0 ≤ x9_2
                  · rw [if_pos c28] at H
                    have c28b0 : decide (0 ≤ x9_2) = true := decide_eq_true c28
                    clear c28
                    by_cases c29 : x9_2 < (l0_2.length : Int)
                    · rw [if_pos c29] at H
                      have c29b0 : decide (x9_2 < (l0_2.length : Int)) = true := decide_eq_true c29
                      clear c29
                      replace H := Option.bind_eq_some_iff.mp H
                      obtain ⟨t346, A300, H⟩ := H
                      replace H : (if ((rd_T35 l0_2 x9_2).f0) = 24 then (if x7_2 > 0 then (if 0 ≤ (wrap64 (x7_2 - 1)) then (if (wrap64 (x7_2 - 1)) < (t334.length : Int) then (if (rd t334 (wrap64 (x7_2 - 1))) = x8_2 then (bluebelllaw06_OcodeDown.j2 k2 t330 t334 x7_2 x9_2 t346 ((rd t330 x9_2) != 0) a0_0 l0_1 l0_2 l0_3 a0_4 a0_5) else (bluebelllaw06_OcodeDown.j2 k2 t330 t334 x7_2 x9_2 t346 true a0_0 l0_1 l0_2 l0_3 a0_4 a0_5)) else (none)) else (none)) else (bluebelllaw06_OcodeDown.j2 k2 t330 t334 x7_2 x9_2 t346 ((rd t330 x9_2) != 0) a0_0 l0_1 l0_2 l0_3 a0_4 a0_5)) else (if (rd t330 x9_2) < 2 then (bluebelllaw06_OcodeDown.j3 k2 t330 t334 x7_2 x8_2 x9_2 t346 true a0_0 l0_1 l0_2 l0_3 a0_4 a0_5) else (bluebelllaw06_OcodeDown.j3 k2 t330 t334 x7_2 x8_2 x9_2 t346 (decide ((rd t330 x9_2) > 4000)) a0_0 l0_1 l0_2 l0_3 a0_4 a0_5))) = some r := H
                      have A30 := Aside0.mk A300
                      clear A300
                      by_cases c31 : ((rd_T35 l0_2 x9_2).f0) = 24
                      · rw [if_pos c31] at H
                        have c31b0 : (((rd_T35 l0_2 x9_2).f0) == 24) = true := beq_iff_eq.mpr c31
                        have c31b1 : (((rd_T35 l0_2 x9_2).f0) != 24) = false := bne_eq_false_iff_eq.mpr c31
                        clear c31
                        have HC32 := Aside0.mk H
                        clear H
                        obtain ⟨Ao33, co33, eo33⟩ := Kd.R_slice HO_3.out
                        subst eo33
                        have hcz34_0 : wr.cell? ⟨gb327, 0, none⟩ = some (.string a0_0) := (blk_cell BK327.out 0).trans rfl
                        have hcz34_1 : wr.cell? ⟨gb327, 1, none⟩ = some (.slice A0_1 l0_1.length c0_1) := (blk_cell BK327.out 1).trans rfl
                        have hcz34_2 : wr.cell? ⟨gb327, 2, none⟩ = some (.slice A0_2 l0_2.length c0_2) := (blk_cell BK327.out 2).trans rfl
                        have hcz34_3 : wr.cell? ⟨gb327, 3, none⟩ = some (.slice A0_3 l0_3.length c0_3) := (blk_cell BK327.out 3).trans rfl
                        have hcz34_4 : wr.cell? ⟨gb327, 4, none⟩ = some (.int .i64 a0_4) := (blk_cell BK327.out 4).trans rfl
                        have hcz34_5 : wr.cell? ⟨gb327, 5, none⟩ = some (.int .i64 a0_5) := (blk_cell BK327.out 5).trans rfl
                        have hfz34_0 := blk_frozen BK327.out 0
                        have hfz34_1 := blk_frozen BK327.out 1
                        have hfz34_2 := blk_frozen BK327.out 2
                        have hfz34_3 := blk_frozen BK327.out 3
                        have hfz34_4 := blk_frozen BK327.out 4
                        have hfz34_5 := blk_frozen BK327.out 5
                        have p343 : 0 ≤ (x9_2 : Int) := of_decide_eq_true (by first | (with_reducible assumption) | assumption)
                        have q343 : x9_2 < (l0_2.length : Int) := of_decide_eq_true (by first | (with_reducible assumption) | assumption)
                        obtain ⟨ad343, e343, hx343_0, hx343_1, hx343_2⟩ := at_T35 HR0_2.out x9_2 p343 q343
                        cases e343
                        replace hx343_0 := (HB.out.cell (World.block_lt_of_cell? w _ hx343_0)).trans hx343_0
                        replace hx343_1 := (HB.out.cell (World.block_lt_of_cell? w _ hx343_1)).trans hx343_1
                        replace hx343_2 := (HB.out.cell (World.block_lt_of_cell? w _ hx343_2)).trans hx343_2
                        replace p343 := eq_true p343
                        replace q343 := eq_true q343
                        try go_wp2_with (first | ((with_reducible refine gate_dst (N := 10) rfl ?_); (try (refine gate_guard (by rfl) ?_; dsimp only)); refine box_event ?hg (N := 10) ?hd (cs := #[.int .i64 0, .int .i64 0, .int .i64 0]) (t := 35) ?hr ?_; (case hd => rfl); (case hg => rfl); (case hr => first | (go_simp; done) | (go_simp; rfl)); intro gb344 hg w35 hbox hb; have n0_ := Aside0.mk (Kd.R_below (by (with_reducible repeat (first | apply Kd.R_alloc | apply Kd.R_drewN | apply Kd.R_drew)); exact HO_3.out) hb); have n1_ := Aside0.mk (Kd.R_below (by (with_reducible repeat (first | apply Kd.R_alloc | apply Kd.R_drewN | apply Kd.R_drew)); exact HO_5.out) hb); have n2_ := Aside0.mk (blk_below (g := gb327) (o := .cells #[.string a0_0, .slice A0_1 l0_1.length c0_1, .slice (some ad343) l0_2.length c0_2, .slice A0_3 l0_3.length c0_3, .int .i64 a0_4, .int .i64 a0_5] 26 (0, 0)) (by (with_reducible repeat (first | refine blk_drewN ?_ _ | refine blk_drew ?_ | refine blk_alloc ?_ _)); exact BK327.out) hb); have n3_ := Aside0.mk (below_step (by repeat (first | (with_reducible first | exact HB.out | apply below_alloc | apply pw_below_drewN | apply below_drew1 | refine below_set ?_ GE327.out) | exact HB.out)) hb); have n4_ := Aside0.mk (hbox); have n5_ := Aside0.mk ((by rw [hg]; exact (below_size (by repeat (first | (with_reducible first | exact HB.out | apply below_alloc | apply pw_below_drewN | apply below_drew1 | refine below_set ?_ GE327.out) | exact HB.out))) : w.heap.size ≤ gb344)); have n6_ := Aside0.mk ((by rw [hg]; exact (below_size (by repeat (first | (with_reducible first | exact HB.out | apply below_alloc | apply pw_below_drewN | apply below_drew1 | refine below_set ?_ GE327.out) | exact HB.out))) : w.heap.size ≤ gb344)); have n7_ := Aside0.mk ((by rw [hg]; exact Nat.ne_of_lt (blk_lt (g := gb327) (o := .cells #[.string a0_0, .slice A0_1 l0_1.length c0_1, .slice (some ad343) l0_2.length c0_2, .slice A0_3 l0_3.length c0_3, .int .i64 a0_4, .int .i64 a0_5] 26 (0, 0)) (by (with_reducible repeat (first | refine blk_drewN ?_ _ | refine blk_drew ?_ | refine blk_alloc ?_ _)); exact BK327.out)) : gb327 ≠ gb344)); have n8_ := Aside0.mk ((by rw [hg]; exact Nat.ne_of_gt (blk_lt (g := gb327) (o := .cells #[.string a0_0, .slice A0_1 l0_1.length c0_1, .slice (some ad343) l0_2.length c0_2, .slice A0_3 l0_3.length c0_3, .int .i64 a0_4, .int .i64 a0_5] 26 (0, 0)) (by (with_reducible repeat (first | refine blk_drewN ?_ _ | refine blk_drew ?_ | refine blk_alloc ?_ _)); exact BK327.out)) : gb344 ≠ gb327)); clear HO_3; clear HO_5; clear BK327; clear HB; have HO_3 := n0_; have HO_5 := n1_; have BK327 := n2_; have HB := n3_; have BK344 := n4_; have GW344 := n5_; have GE344 := n6_; have NB327_344 := n7_; have NB344_327 := n8_; clear n0_ n1_ n2_ n3_ n4_ n5_ n6_ n7_ n8_; clear hb hbox hg; have hnb36 := NB344_327.out; have hnc36 := NB327_344.out; have hcz37_0 : w35.cell? ⟨gb344, 0, none⟩ = some (.int .i64 0) := (blk_cell BK344.out 0).trans rfl; have hcz37_1 : w35.cell? ⟨gb344, 1, none⟩ = some (.int .i64 0) := (blk_cell BK344.out 1).trans rfl; have hcz37_2 : w35.cell? ⟨gb344, 2, none⟩ = some (.int .i64 0) := (blk_cell BK344.out 2).trans rfl; have hfz37_0 := blk_frozen BK344.out 0; have hfz37_1 := blk_frozen BK344.out 1; have hfz37_2 := blk_frozen BK344.out 2))
                        have n0_ : Aside0 (Kd.R (Kd.int .i64) 3 (((w35.setCell ⟨gb344, 0, none⟩ (.int .i64 ((rd_T35 l0_2 x9_2).f0))).setCell ⟨gb344, 1, none⟩ (.int .i64 ((rd_T35 l0_2 x9_2).f1))).setCell ⟨gb344, 2, none⟩ (.int .i64 ((rd_T35 l0_2 x9_2).f2))) w.heap.size (fun k_ => some k_ ≠ (v335 : Value).ownBlock) (.slice Ao33 t330.length co33) t330) := ⟨by (with_reducible repeat (first | apply Kd.R_alloc | apply Kd.R_drewN | apply Kd.R_drew)); exact Kd.R_mono (Kd.R_far (p := ⟨gb344, 2, none⟩) (Kd.R_far (p := ⟨gb344, 1, none⟩) (Kd.R_far (p := ⟨gb344, 0, none⟩) (Kd.R_types HO_3.out BK344.out (by decide)) (fun _ hk => hk.2) (.int .i64 ((rd_T35 l0_2 x9_2).f0))) (fun _ hk => hk.2) (.int .i64 ((rd_T35 l0_2 x9_2).f1))) (fun _ hk => hk.2) (.int .i64 ((rd_T35 l0_2 x9_2).f2))) (fun _ hk => hk.1)⟩
                        have n1_ : Aside0 (Kd.R (Kd.int .i64) 3 (((w35.setCell ⟨gb344, 0, none⟩ (.int .i64 ((rd_T35 l0_2 x9_2).f0))).setCell ⟨gb344, 1, none⟩ (.int .i64 ((rd_T35 l0_2 x9_2).f1))).setCell ⟨gb344, 2, none⟩ (.int .i64 ((rd_T35 l0_2 x9_2).f2))) w.heap.size (fun k_ => some k_ ≠ (.slice Ao33 t330.length co33 : Value).ownBlock) v335 t334) := ⟨by (with_reducible repeat (first | apply Kd.R_alloc | apply Kd.R_drewN | apply Kd.R_drew)); exact Kd.R_mono (Kd.R_far (p := ⟨gb344, 2, none⟩) (Kd.R_far (p := ⟨gb344, 1, none⟩) (Kd.R_far (p := ⟨gb344, 0, none⟩) (Kd.R_types HO_5.out BK344.out (by decide)) (fun _ hk => hk.2) (.int .i64 ((rd_T35 l0_2 x9_2).f0))) (fun _ hk => hk.2) (.int .i64 ((rd_T35 l0_2 x9_2).f1))) (fun _ hk => hk.2) (.int .i64 ((rd_T35 l0_2 x9_2).f2))) (fun _ hk => hk.1)⟩
                        have n2_ : Aside0 ((((w35.setCell ⟨gb344, 0, none⟩ (.int .i64 ((rd_T35 l0_2 x9_2).f0))).setCell ⟨gb344, 1, none⟩ (.int .i64 ((rd_T35 l0_2 x9_2).f1))).setCell ⟨gb344, 2, none⟩ (.int .i64 ((rd_T35 l0_2 x9_2).f2))).heap[gb327]? = some (.cells #[.string a0_0, .slice A0_1 l0_1.length c0_1, .slice (some ad343) l0_2.length c0_2, .slice A0_3 l0_3.length c0_3, .int .i64 a0_4, .int .i64 a0_5] 26 (0, 0))) := ⟨by (with_reducible repeat (first | refine blk_drewN ?_ _ | refine blk_drew ?_ | refine blk_alloc ?_ _)); refine blk_far ?_ NB327_344.out _; (with_reducible repeat (first | refine blk_drewN ?_ _ | refine blk_drew ?_ | refine blk_alloc ?_ _)); refine blk_far ?_ NB327_344.out _; (with_reducible repeat (first | refine blk_drewN ?_ _ | refine blk_drew ?_ | refine blk_alloc ?_ _)); refine blk_far ?_ NB327_344.out _; (with_reducible repeat (first | refine blk_drewN ?_ _ | refine blk_drew ?_ | refine blk_alloc ?_ _)); exact BK327.out⟩
                        have n3_ : Aside0 ((((w35.setCell ⟨gb344, 0, none⟩ (.int .i64 ((rd_T35 l0_2 x9_2).f0))).setCell ⟨gb344, 1, none⟩ (.int .i64 ((rd_T35 l0_2 x9_2).f1))).setCell ⟨gb344, 2, none⟩ (.int .i64 ((rd_T35 l0_2 x9_2).f2))).heap[gb344]? = some (.cells #[.int .i64 ((rd_T35 l0_2 x9_2).f0), .int .i64 ((rd_T35 l0_2 x9_2).f1), .int .i64 ((rd_T35 l0_2 x9_2).f2)] 35 (0, 0))) := ⟨by (with_reducible repeat (first | refine blk_drewN ?_ _ | refine blk_drew ?_ | refine blk_alloc ?_ _)); refine blk_put (cs := #[.int .i64 ((rd_T35 l0_2 x9_2).f0), .int .i64 ((rd_T35 l0_2 x9_2).f1), .int .i64 0]) ?_ 2 _ rfl; (with_reducible repeat (first | refine blk_drewN ?_ _ | refine blk_drew ?_ | refine blk_alloc ?_ _)); refine blk_put (cs := #[.int .i64 ((rd_T35 l0_2 x9_2).f0), .int .i64 0, .int .i64 0]) ?_ 1 _ rfl; (with_reducible repeat (first | refine blk_drewN ?_ _ | refine blk_drew ?_ | refine blk_alloc ?_ _)); refine blk_put (cs := #[.int .i64 0, .int .i64 0, .int .i64 0]) ?_ 0 _ rfl; (with_reducible repeat (first | refine blk_drewN ?_ _ | refine blk_drew ?_ | refine blk_alloc ?_ _)); exact BK344.out⟩
                        have n4_ : Aside0 (Below w.heap.size w (((w35.setCell ⟨gb344, 0, none⟩ (.int .i64 ((rd_T35 l0_2 x9_2).f0))).setCell ⟨gb344, 1, none⟩ (.int .i64 ((rd_T35 l0_2 x9_2).f1))).setCell ⟨gb344, 2, none⟩ (.int .i64 ((rd_T35 l0_2 x9_2).f2)))) := ⟨by repeat (first | (with_reducible first | exact HB.out | apply below_alloc | apply pw_below_drewN | apply below_drew1 | refine below_set ?_ GE327.out | refine below_set ?_ GE344.out) | exact HB.out)⟩
                        (try clear HO_3)
                        (try clear HO_5)
                        (try clear BK327)
                        (try clear BK344)
                        (try clear HB)
                        generalize (((w35.setCell ⟨gb344, 0, none⟩ (.int .i64 ((rd_T35 l0_2 x9_2).f0))).setCell ⟨gb344, 1, none⟩ (.int .i64 ((rd_T35 l0_2 x9_2).f1))).setCell ⟨gb344, 2, none⟩ (.int .i64 ((rd_T35 l0_2 x9_2).f2))) = w38 at n0_ n1_ n2_ n3_ n4_ ⊢
                        have HO_3 := n0_
                        have HO_5 := n1_
                        have BK327 := n2_
                        have BK344 := n3_
                        have HB := n4_
                        clear n0_ n1_ n2_ n3_ n4_
                        have n0_ := Aside0.mk (Kd.R_drew HO_3.out)
                        have n1_ := Aside0.mk (Kd.R_drew HO_5.out)
                        have n2_ := Aside0.mk (blk_drew BK327.out)
                        have n3_ := Aside0.mk (blk_drew BK344.out)
                        have n4_ := Aside0.mk (below_drew1 HB.out)
                        clear HO_3
                        clear HO_5
                        clear BK327
                        clear BK344
                        clear HB
                        have HO_3 := n0_
                        have HO_5 := n1_
                        have BK327 := n2_
                        have BK344 := n3_
                        have HB := n4_
                        clear n0_ n1_ n2_ n3_ n4_
                        have p345 : 0 ≤ (x9_2 : Int) := of_decide_eq_true (by first | (with_reducible assumption) | assumption)
                        have q345 : x9_2 < (t330.length : Int) := of_decide_eq_true (by first | (with_reducible assumption) | assumption)
                        obtain ⟨ad345, e345, hx345_0⟩ := Kd.at_int (Kd.R_reads' HO_3.out).2.2 x9_2 p345 q345
                        cases e345
                        replace p345 := eq_true p345
                        replace q345 := eq_true q345
                        refine start_ (n := 7) (S := fun w' => w'.cell? ⟨gb344, 0, none⟩ = some (.int .i64 ((rd_T35 l0_2 x9_2).f0)) ∧ w'.cell? ⟨gb344, 1, none⟩ = some (.int .i64 ((rd_T35 l0_2 x9_2).f1)) ∧ w'.cell? ⟨gb344, 2, none⟩ = some (.int .i64 ((rd_T35 l0_2 x9_2).f2)) ∧ w'.cell? (ad345.add (x9_2).toNat) = some (.int .i64 (rd t330 x9_2))) (ds := []) #[false, false, false, false, false, false, false] (by kernel_rfl) rfl rfl ⟨(blk_cell BK344.out 0).trans rfl, (blk_cell BK344.out 1).trans rfl, (blk_cell BK344.out 2).trans rfl, hx345_0⟩ (fun hHeld => ?_)
                        generalize w38.drew = w39 at HO_3 HO_5 BK327 BK344 HB hx345_0 hHeld ⊢
                        refine pure_ (i := 1) (N := some 64) (v := ?_) (a' := ?_) #[false, true, false, false, false, false, false] rfl rfl (by kernel_rfl) (fun _ _ _ h => h) (Or.inl ⟨by rfl, ?_⟩) ?_ ?_
                        rotate_left
                        · intro w'
                          go_simp
                          with_reducible rfl
                        rotate_left
                        · simp only [Act.put, List.setIfInBounds_toArray, List.set_cons_zero, List.set_cons_succ, i64_w, i32_w]
                          rfl
                        refine pure_ (i := 2) (N := some 65) (v := ?_) (a' := ?_) #[false, true, true, false, false, false, false] rfl rfl (by kernel_rfl) (fun _ _ _ h => h) (Or.inl ⟨by rfl, ?_⟩) ?_ ?_
                        rotate_left
                        · intro w'
                          go_simp
                          with_reducible rfl
                        rotate_left
                        · simp only [Act.put, List.setIfInBounds_toArray, List.set_cons_zero, List.set_cons_succ, i64_w, i32_w]
                          rfl
                        refine pure_ (i := 3) (N := some 66) (v := ?_) (a' := ?_) #[false, true, true, true, false, false, false] rfl rfl (by kernel_rfl) (fun _ _ _ h => h) (Or.inl ⟨by rfl, ?_⟩) ?_ ?_
                        rotate_left
                        · intro w'
                          go_simp
                          with_reducible rfl
                        rotate_left
                        · simp only [Act.put, List.setIfInBounds_toArray, List.set_cons_zero, List.set_cons_succ, i64_w, i32_w]
                          rfl
                        refine take_ (i := 0) (N := some 63) (v := ?_) (a' := ?_) #[true, true, true, true, false, false, false] rfl rfl (by kernel_rfl) (fun _ _ _ h => h) (Or.inl ⟨by rfl, ?_⟩) hHeld ?_ ?_
                        rotate_left
                        · rintro w' ⟨s0, s1, s2, s3⟩
                          go_simp
                          with_reducible rfl
                        rotate_left
                        · simp only [Act.put, List.setIfInBounds_toArray, List.set_cons_zero, List.set_cons_succ, i64_w, i32_w]
                          rfl
                        refine take_ (i := 4) (N := some 67) (v := ?_) (a' := ?_) #[true, true, true, true, true, false, false] rfl rfl (by kernel_rfl) (fun _ _ _ h => h) (Or.inl ⟨by rfl, ?_⟩) hHeld ?_ ?_
                        rotate_left
                        · rintro w' ⟨s0, s1, s2, s3⟩
                          go_simp
                          with_reducible rfl
                        rotate_left
                        · simp only [Act.put, List.setIfInBounds_toArray, List.set_cons_zero, List.set_cons_succ, i64_w, i32_w]
                          rfl
                        refine one_ (i := 5) (N := some 68) #[true, true, true, true, true, true, false] rfl rfl (by kernel_rfl) (by decide) (fun K hK => ?_)
                        refine goes_ Try.func21 (by kernel_rfl) rfl #[.agg #[.int .i64 ((rd_T35 l0_2 x9_2).f0), .int .i64 ((rd_T35 l0_2 x9_2).f1), .int .i64 ((rd_T35 l0_2 x9_2).f2)], .int .i64 (rd t330 x9_2)] (by rfl) rfl rfl (by (try simp only [List.map_toArray, List.map_cons, List.map_nil]); first | done | rfl | (simp only [List.length_drop, List.length_take]; rfl)) ?_
                        with_reducible refine (bluebellref06_After.calls k2 ((rd_T35 l0_2 x9_2).f0) ((rd_T35 l0_2 x9_2).f1) ((rd_T35 l0_2 x9_2).f2) (rd t330 x9_2) t346 _ A30.out).mono ?_
                        rintro e w40 ⟨rfl, hb⟩
                        have HS3_ := (hb.cell (World.block_lt_of_cell? _ _ (hHeld.2.2.2))).trans (hHeld.2.2.2)
                        refine ⟨_, rfl, ?_⟩
                        have n0_ := Aside0.mk (Kd.R_below (by (with_reducible repeat (first | apply Kd.R_alloc | apply Kd.R_drewN | apply Kd.R_drew)); exact HO_3.out) hb)
                        have n1_ := Aside0.mk (Kd.R_below (by (with_reducible repeat (first | apply Kd.R_alloc | apply Kd.R_drewN | apply Kd.R_drew)); exact HO_5.out) hb)
                        have n2_ := Aside0.mk (blk_below (g := gb327) (o := .cells #[.string a0_0, .slice A0_1 l0_1.length c0_1, .slice (some ad343) l0_2.length c0_2, .slice A0_3 l0_3.length c0_3, .int .i64 a0_4, .int .i64 a0_5] 26 (0, 0)) (by (with_reducible repeat (first | refine blk_drewN ?_ _ | refine blk_drew ?_ | refine blk_alloc ?_ _)); exact BK327.out) hb)
                        have n3_ := Aside0.mk (blk_below (g := gb344) (o := .cells #[.int .i64 ((rd_T35 l0_2 x9_2).f0), .int .i64 ((rd_T35 l0_2 x9_2).f1), .int .i64 ((rd_T35 l0_2 x9_2).f2)] 35 (0, 0)) (by (with_reducible repeat (first | refine blk_drewN ?_ _ | refine blk_drew ?_ | refine blk_alloc ?_ _)); exact BK344.out) hb)
                        have n4_ := Aside0.mk (below_step (by repeat (first | (with_reducible first | exact HB.out | apply below_alloc | apply pw_below_drewN | apply below_drew1 | refine below_set ?_ GE327.out | refine below_set ?_ GE344.out) | exact HB.out)) hb)
                        clear HO_3
                        clear HO_5
                        clear BK327
                        clear BK344
                        clear HB
                        have HO_3 := n0_
                        have HO_5 := n1_
                        have BK327 := n2_
                        have BK344 := n3_
                        have HB := n4_
                        clear n0_ n1_ n2_ n3_ n4_
                        (try clear hb)
                        (try clear hb2)
                        (try clear hk)
                        (try clear hi)
                        refine hK.out _ _ ⟨(blk_cell BK344.out 0).trans rfl, (blk_cell BK344.out 1).trans rfl, (blk_cell BK344.out 2).trans rfl, HS3_⟩ (fun hHeld => ?_)
                        clear hK K
                        refine norm_ (a' := ?_) ?_ ?_
                        rotate_left
                        · show Act.put _ (some 68) _ = _
                          simp only [Act.put, List.setIfInBounds_toArray, List.set_cons_zero, List.set_cons_succ, i64_w, i32_w]
                          rfl
                        refine pure_ (i := 6) (N := some 11) (v := ?_) (a' := ?_) #[true, true, true, true, true, true, true] rfl rfl (by kernel_rfl) (fun _ _ _ h => h) (Or.inl ⟨by rfl, ?_⟩) ?_ ?_
                        rotate_left
                        · intro w'
                          go_simp
                          with_reducible rfl
                        rotate_left
                        · simp only [Act.put, List.setIfInBounds_toArray, List.set_cons_zero, List.set_cons_succ, i64_w, i32_w]
                          rfl
                        refine done_ (by kernel_rfl) ?_
                        have hcz41_0 : w40.cell? ⟨gb344, 0, none⟩ = some (.int .i64 ((rd_T35 l0_2 x9_2).f0)) := (blk_cell BK344.out 0).trans rfl
                        have hcz41_1 : w40.cell? ⟨gb344, 1, none⟩ = some (.int .i64 ((rd_T35 l0_2 x9_2).f1)) := (blk_cell BK344.out 1).trans rfl
                        have hcz41_2 : w40.cell? ⟨gb344, 2, none⟩ = some (.int .i64 ((rd_T35 l0_2 x9_2).f2)) := (blk_cell BK344.out 2).trans rfl
                        have hfz41_0 := blk_frozen BK344.out 0
                        have hfz41_1 := blk_frozen BK344.out 1
                        have hfz41_2 := blk_frozen BK344.out 2
                        go_upto_region 16 with (fail)
                        go_cut [89] (fun v89 wc => ∃ (kq : Nat) (x89_31 : Bool), v89 = .bool x89_31 ∧ Aside0 (bluebelllaw06_OcodeDown.j2 kq t330 t334 x7_2 x9_2 t346 x89_31 a0_0 l0_1 l0_2 l0_3 a0_4 a0_5 = some r) ∧ Aside0 (kq ≤ k2) ∧ Aside0 (Kd.R (Kd.int .i64) 3 wc w.heap.size (fun k_ => some k_ ≠ (v335 : Value).ownBlock) (.slice (some ad345) t330.length co33) t330) ∧ Aside0 (Kd.R (Kd.int .i64) 3 wc w.heap.size (fun k_ => some k_ ≠ ((.slice (some ad345) t330.length co33) : Value).ownBlock) v335 t334) ∧ Aside0 (wc.heap[gb327]? = some (.cells #[.string a0_0, (.slice A0_1 l0_1.length c0_1), (.slice (some ad343) l0_2.length c0_2), (.slice A0_3 l0_3.length c0_3), .int .i64 a0_4, .int .i64 a0_5] 26 (0, 0))) ∧ Aside0 (wc.heap[gb344]? = some (.cells #[.int .i64 ((rd_T35 l0_2 x9_2).f0), .int .i64 ((rd_T35 l0_2 x9_2).f1), .int .i64 ((rd_T35 l0_2 x9_2).f2)] 35 (0, 0))) ∧ Aside0 (Below w.heap.size w wc))
                        case first =>
                          have H := HC32.out
                          clear HC32
                          by_cases c42 : x7_2 > 0
                          · rw [if_pos c42] at H
                            have c42b0 : decide (0 < x7_2) = true := decide_eq_true c42
                            clear c42
                            (first | rw [c42b0] | (simp only [i64_w, i32_w]; rw [c42b0]) | skip)
                            obtain ⟨ji43, hji43⟩ : ∃ j_ : Int, (wrap64 (x7_2 - 1)) = j_ := ⟨_, rfl⟩
                            replace H : (if 0 ≤ (ji43) then (if (ji43) < (t334.length : Int) then (if (rd t334 (ji43)) = x8_2 then (bluebelllaw06_OcodeDown.j2 k2 t330 t334 x7_2 x9_2 t346 ((rd t330 x9_2) != 0) a0_0 l0_1 l0_2 l0_3 a0_4 a0_5) else (bluebelllaw06_OcodeDown.j2 k2 t330 t334 x7_2 x9_2 t346 true a0_0 l0_1 l0_2 l0_3 a0_4 a0_5)) else (none)) else (none)) = some r := by first | (rw [hji43] at H; exact H) | (simp only [hji43] at H ⊢; exact H)
                            have hji43w : (IntKind.i64.wrap (x7_2 - 1)) = ji43 := (i64_w _).trans hji43
                            by_cases c44 : 0 ≤ (ji43)
                            · rw [if_pos c44] at H
                              have c44b0 : decide (0 ≤ (ji43)) = true := decide_eq_true c44
                              clear c44
                              by_cases c45 : (ji43) < (t334.length : Int)
                              · rw [if_pos c45] at H
                                have c45b0 : decide ((ji43) < (t334.length : Int)) = true := decide_eq_true c45
                                clear c45
                                by_cases c46 : (rd t334 (ji43)) = x8_2
                                · rw [if_pos c46] at H
                                  have c46b0 : ((rd t334 (ji43)) == x8_2) = true := beq_iff_eq.mpr c46
                                  have c46b1 : ((rd t334 (ji43)) != x8_2) = false := bne_eq_false_iff_eq.mpr c46
                                  clear c46
                                  have H' := Aside0.mk H
                                  clear H
                                  obtain ⟨Ao47, co47, eo47⟩ := Kd.R_slice HO_5.out
                                  subst eo47
                                  have p347 : 0 ≤ ((ji43) : Int) := of_decide_eq_true (by first | (with_reducible assumption) | assumption)
                                  have q347 : (ji43) < (t334.length : Int) := of_decide_eq_true (by first | (with_reducible assumption) | assumption)
                                  obtain ⟨ad347, e347, hx347_0⟩ := Kd.at_int (Kd.R_reads' HO_5.out).2.2 (ji43) p347 q347
                                  cases e347
                                  replace p347 := eq_true p347
                                  replace q347 := eq_true q347
                                  have p348 : 0 ≤ (x9_2 : Int) := of_decide_eq_true (by first | (with_reducible assumption) | assumption)
                                  have q348 : x9_2 < (t330.length : Int) := of_decide_eq_true (by first | (with_reducible assumption) | assumption)
                                  obtain ⟨ad348, e348, hx348_0⟩ := Kd.at_int (Kd.R_reads' HO_3.out).2.2 x9_2 p348 q348
                                  obtain rfl : ad345 = ad348 := (by injection e348)
                                  replace p348 := eq_true p348
                                  replace q348 := eq_true q348
                                  go_wp2
                                  (first | go_meet | (refine Met.intro ?_; go_step; (repeat apply Exists.intro); refine ⟨?rel, ?fr_⟩; (case fr_ => first | (simp only [c46b1, c46b0, c45b0, c44b0, c42b0]; done) | (simp only [c46b1, c46b0, c45b0, c44b0, c42b0]; rfl) | ((try simp only [c46b1, c46b0, c45b0, c44b0, c42b0]); (try simp only [hji43]); (try simp only [c46b1, c46b0, c45b0, c44b0, c42b0]); first | done | rfl))))
                                  case rel => exact ⟨_, (((rd t330 x9_2) != 0)), (by first | rfl | (simp; done) | (simp [*]; done)), (by first | exact H' | (simp only [hji43]; exact H')), ⟨by have := HJ11.out; have := HK2.out; first | omega | exact Nat.le_refl _⟩, ⟨by (with_reducible repeat (first | apply Kd.R_alloc | apply Kd.R_drewN | apply Kd.R_drew)); exact HO_3.out⟩, ⟨by (with_reducible repeat (first | apply Kd.R_alloc | apply Kd.R_drewN | apply Kd.R_drew)); exact HO_5.out⟩, ⟨by (with_reducible repeat (first | refine blk_drewN ?_ _ | refine blk_drew ?_ | refine blk_alloc ?_ _)); exact BK327.out⟩, ⟨by (with_reducible repeat (first | refine blk_drewN ?_ _ | refine blk_drew ?_ | refine blk_alloc ?_ _)); exact BK344.out⟩, ⟨by repeat (first | (with_reducible first | exact HB.out | apply below_alloc | apply pw_below_drewN | apply below_drew1 | refine below_set ?_ GE327.out | refine below_set ?_ GE344.out) | exact HB.out)⟩⟩
                                · rw [if_neg c46] at H
                                  have c46b0 : ((rd t334 (ji43)) == x8_2) = false := beq_eq_false_iff_ne.mpr c46
                                  have c46b1 : ((rd t334 (ji43)) != x8_2) = true := bne_iff_ne.mpr c46
                                  have H' := Aside0.mk H
                                  clear H
                                  obtain ⟨Ao48, co48, eo48⟩ := Kd.R_slice HO_5.out
                                  subst eo48
                                  have p347 : 0 ≤ ((ji43) : Int) := of_decide_eq_true (by first | (with_reducible assumption) | assumption)
                                  have q347 : (ji43) < (t334.length : Int) := of_decide_eq_true (by first | (with_reducible assumption) | assumption)
                                  obtain ⟨ad347, e347, hx347_0⟩ := Kd.at_int (Kd.R_reads' HO_5.out).2.2 (ji43) p347 q347
                                  cases e347
                                  replace p347 := eq_true p347
                                  replace q347 := eq_true q347
                                  go_wp2
                                  (first | go_meet | (refine Met.intro ?_; go_step; (repeat apply Exists.intro); refine ⟨?rel, ?fr_⟩; (case fr_ => first | (simp only [c46b1, c46b0, c45b0, c44b0, c42b0]; done) | (simp only [c46b1, c46b0, c45b0, c44b0, c42b0]; rfl) | ((try simp only [c46b1, c46b0, c45b0, c44b0, c42b0]); (try simp only [hji43]); (try simp only [c46b1, c46b0, c45b0, c44b0, c42b0]); first | done | rfl))))
                                  case rel => exact ⟨_, (true), (by first | rfl | (simp; done) | (simp [*]; done)), (by first | exact H' | (simp only [hji43]; exact H')), ⟨by have := HJ11.out; have := HK2.out; first | omega | exact Nat.le_refl _⟩, ⟨by (with_reducible repeat (first | apply Kd.R_alloc | apply Kd.R_drewN | apply Kd.R_drew)); exact HO_3.out⟩, ⟨by (with_reducible repeat (first | apply Kd.R_alloc | apply Kd.R_drewN | apply Kd.R_drew)); exact HO_5.out⟩, ⟨by (with_reducible repeat (first | refine blk_drewN ?_ _ | refine blk_drew ?_ | refine blk_alloc ?_ _)); exact BK327.out⟩, ⟨by (with_reducible repeat (first | refine blk_drewN ?_ _ | refine blk_drew ?_ | refine blk_alloc ?_ _)); exact BK344.out⟩, ⟨by repeat (first | (with_reducible first | exact HB.out | apply below_alloc | apply pw_below_drewN | apply below_drew1 | refine below_set ?_ GE327.out | refine below_set ?_ GE344.out) | exact HB.out)⟩⟩
                              · rw [if_neg c45] at H
                                exact absurd H (by simp)
                            · rw [if_neg c44] at H
                              exact absurd H (by simp)
                          · rw [if_neg c42] at H
                            have c42b0 : decide (0 < x7_2) = false := decide_eq_false c42
                            clear c42
                            (first | rw [c42b0] | (simp only [i64_w, i32_w]; rw [c42b0]) | skip)
                            have H' := Aside0.mk H
                            clear H
                            have p349 : 0 ≤ (x9_2 : Int) := of_decide_eq_true (by first | (with_reducible assumption) | assumption)
                            have q349 : x9_2 < (t330.length : Int) := of_decide_eq_true (by first | (with_reducible assumption) | assumption)
                            obtain ⟨ad349, e349, hx349_0⟩ := Kd.at_int (Kd.R_reads' HO_3.out).2.2 x9_2 p349 q349
                            obtain rfl : ad345 = ad349 := (by injection e349)
                            replace p349 := eq_true p349
                            replace q349 := eq_true q349
                            go_wp2
                            (first | go_meet | (refine Met.intro ?_; go_step; (repeat apply Exists.intro); refine ⟨?rel, ?fr_⟩; (case fr_ => first | (simp only [c42b0]; done) | (simp only [c42b0]; rfl) | (simp only [c42b0]; rfl))))
                            case rel => exact ⟨_, (((rd t330 x9_2) != 0)), (by first | rfl | (simp; done) | (simp [*]; done)), H', ⟨by have := HJ11.out; have := HK2.out; first | omega | exact Nat.le_refl _⟩, ⟨by (with_reducible repeat (first | apply Kd.R_alloc | apply Kd.R_drewN | apply Kd.R_drew)); exact HO_3.out⟩, ⟨by (with_reducible repeat (first | apply Kd.R_alloc | apply Kd.R_drewN | apply Kd.R_drew)); exact HO_5.out⟩, ⟨by (with_reducible repeat (first | refine blk_drewN ?_ _ | refine blk_drew ?_ | refine blk_alloc ?_ _)); exact BK327.out⟩, ⟨by (with_reducible repeat (first | refine blk_drewN ?_ _ | refine blk_drew ?_ | refine blk_alloc ?_ _)); exact BK344.out⟩, ⟨by repeat (first | (with_reducible first | exact HB.out | apply below_alloc | apply pw_below_drewN | apply below_drew1 | refine below_set ?_ GE327.out | refine below_set ?_ GE344.out) | exact HB.out)⟩⟩
                        case rest =>
                          clear HC32
                          try clear c1
                          try clear c2
                          try clear p2
                          try clear c3
                          try clear p3
                          try clear q3
                          try clear hx3
                          try clear c4
                          try clear c5
                          try clear p6
                          try clear c11
                          try clear c11b0
                          try clear c11b1
                          try clear c12
                          try clear c13
                          try clear c16
                          try clear c18
                          try clear c20
                          try clear c20b0
                          try clear c20b1
                          try clear c20b2
                          try clear c21
                          try clear c26
                          try clear c27
                          try clear c27b0
                          try clear c28
                          try clear c28b0
                          try clear c29
                          try clear c29b0
                          try clear c31
                          try clear c31b0
                          try clear c31b1
                          try clear p34
                          try clear q34
                          try clear hx34
                          try clear c36
                          try clear c42
                          try clear c42b0
                          try clear c44
                          try clear c44b0
                          try clear c45
                          try clear c45b0
                          try clear c46
                          try clear c46b0
                          try clear c46b1
                          try clear hcz14_0
                          try clear hcz14_1
                          try clear hcz14_2
                          try clear hcz14_3
                          try clear hcz14_4
                          try clear hcz14_5
                          try clear hcz16_0
                          try clear hcz16_1
                          try clear hcz16_2
                          try clear hcz16_3
                          try clear hcz16_4
                          try clear hcz16_5
                          try clear hcz18_0
                          try clear hcz18_1
                          try clear hcz18_2
                          try clear hcz18_3
                          try clear hcz18_4
                          try clear hcz18_5
                          try clear hcz22_0
                          try clear hcz22_1
                          try clear hcz22_2
                          try clear hcz22_3
                          try clear hcz22_4
                          try clear hcz22_5
                          try clear hcz25_0
                          try clear hcz25_1
                          try clear hcz25_2
                          try clear hcz25_3
                          try clear hcz25_4
                          try clear hcz25_5
                          try clear hcz34_0
                          try clear hcz34_1
                          try clear hcz34_2
                          try clear hcz34_3
                          try clear hcz34_4
                          try clear hcz34_5
                          try clear hcz37_0
                          try clear hcz37_1
                          try clear hcz37_2
                          try clear hcz41_0
                          try clear hcz41_1
                          try clear hcz41_2
                          try clear hcz6_0
                          try clear hcz6_1
                          try clear hcz6_2
                          try clear hcz6_3
                          try clear hcz6_4
                          try clear hcz6_5
                          try clear hfz14_0
                          try clear hfz14_1
                          try clear hfz14_2
                          try clear hfz14_3
                          try clear hfz14_4
                          try clear hfz14_5
                          try clear hfz16_0
                          try clear hfz16_1
                          try clear hfz16_2
                          try clear hfz16_3
                          try clear hfz16_4
                          try clear hfz16_5
                          try clear hfz18_0
                          try clear hfz18_1
                          try clear hfz18_2
                          try clear hfz18_3
                          try clear hfz18_4
                          try clear hfz18_5
                          try clear hfz22_0
                          try clear hfz22_1
                          try clear hfz22_2
                          try clear hfz22_3
                          try clear hfz22_4
                          try clear hfz22_5
                          try clear hfz25_0
                          try clear hfz25_1
                          try clear hfz25_2
                          try clear hfz25_3
                          try clear hfz25_4
                          try clear hfz25_5
                          try clear hfz34_0
                          try clear hfz34_1
                          try clear hfz34_2
                          try clear hfz34_3
                          try clear hfz34_4
                          try clear hfz34_5
                          try clear hfz37_0
                          try clear hfz37_1
                          try clear hfz37_2
                          try clear hfz41_0
                          try clear hfz41_1
                          try clear hfz41_2
                          try clear hfz6_0
                          try clear hfz6_1
                          try clear hfz6_2
                          try clear hfz6_3
                          try clear hfz6_4
                          try clear hfz6_5
                          try clear hx343_0
                          try clear hx343_1
                          try clear hx343_2
                          try clear hx345_0
                          try clear hx347_0
                          try clear hx348_0
                          try clear hx349_0
                          try clear p2
                          try clear p343
                          try clear p345
                          try clear p347
                          try clear p348
                          try clear p349
                          try clear q343
                          try clear q345
                          try clear q347
                          try clear q348
                          try clear q349
                          obtain ⟨kq, x89_31, rfl, HA, HJ31, HO_3, HO_5, BK327, BK344, HB⟩ := hcut
                          cases kq with
                          | zero => exact absurd HA.out (by simp [bluebelllaw06_OcodeDown.j2])
                          | succ kj31 =>
                            have H := HA.out
                            clear HA
                            simp only [bluebelllaw06_OcodeDown.j2] at H
                            by_cases c49 : x89_31 = true
                            · subst c49
                              have H1 : (some false) = some r := by rw [if_pos rfl] at H; exact H
                              clear H
                              have H := H1
                              clear H1
                              obtain rfl := Option.some.inj H
                              go_wp2
                              go_ret
                              exact ⟨by first | rfl | (simp [errW_none, errW_some] <;> rfl) | (simp [*, errW_none, errW_some] <;> rfl), by repeat (first | (with_reducible first | exact HB.out | apply below_alloc | apply pw_below_drewN | apply below_drew1 | refine below_set ?_ GE327.out | refine below_set ?_ GE344.out) | exact HB.out)⟩
                            · replace c49 := Bool.eq_false_iff.mpr c49
                              subst c49
                              have H1 : (if 0 ≤ x9_2 then (if x9_2 < (t330.length : Int) then (if (wrap64 (x9_2 + 1)) < (t330.length : Int) then (if 0 ≤ (wrap64 (x9_2 + 1)) then (if (wrap64 (x9_2 + 1)) < (l0_2.length : Int) then (if ((rd_T35 l0_2 (wrap64 (x9_2 + 1))).f0) = 24 then (bluebelllaw06_OcodeDown.l0 kj31 t330 t334 (wrap64 (x7_2 + 1)) (mx (mx 0 (rd t330 x9_2)) t346) (wrap64 (x9_2 + 1)) a0_0 l0_1 l0_2 l0_3 a0_4 a0_5) else (if (rd t330 (wrap64 (x9_2 + 1))) = t346 then (bluebelllaw06_OcodeDown.l0 kj31 t330 t334 (wrap64 (x7_2 + 1)) (mx (mx 0 (rd t330 x9_2)) t346) (wrap64 (x9_2 + 1)) a0_0 l0_1 l0_2 l0_3 a0_4 a0_5) else (some false))) else (none)) else (none)) else (bluebelllaw06_OcodeDown.l0 kj31 t330 t334 (wrap64 (x7_2 + 1)) (mx (mx 0 (rd t330 x9_2)) t346) (wrap64 (x9_2 + 1)) a0_0 l0_1 l0_2 l0_3 a0_4 a0_5)) else (none)) else (none)) = some r := by rw [if_neg (show ¬ (false = true) by decide)] at H; exact H
                              clear H
                              have H := H1
                              clear H1
                              by_cases c50 : 0 ≤ x9_2
                              · rw [if_pos c50] at H
                                have c50b0 : decide (0 ≤ x9_2) = true := decide_eq_true c50
                                clear c50
                                by_cases c51 : x9_2 < (t330.length : Int)
                                · rw [if_pos c51] at H
                                  have c51b0 : decide (x9_2 < (t330.length : Int)) = true := decide_eq_true c51
                                  clear c51
                                  obtain ⟨ji52, hji52⟩ : ∃ j_ : Int, (mx 0 (rd t330 x9_2)) = j_ := ⟨_, rfl⟩
                                  replace H : (if (wrap64 (x9_2 + 1)) < (t330.length : Int) then (if 0 ≤ (wrap64 (x9_2 + 1)) then (if (wrap64 (x9_2 + 1)) < (l0_2.length : Int) then (if ((rd_T35 l0_2 (wrap64 (x9_2 + 1))).f0) = 24 then (bluebelllaw06_OcodeDown.l0 kj31 t330 t334 (wrap64 (x7_2 + 1)) (mx (ji52) t346) (wrap64 (x9_2 + 1)) a0_0 l0_1 l0_2 l0_3 a0_4 a0_5) else (if (rd t330 (wrap64 (x9_2 + 1))) = t346 then (bluebelllaw06_OcodeDown.l0 kj31 t330 t334 (wrap64 (x7_2 + 1)) (mx (ji52) t346) (wrap64 (x9_2 + 1)) a0_0 l0_1 l0_2 l0_3 a0_4 a0_5) else (some false))) else (none)) else (none)) else (bluebelllaw06_OcodeDown.l0 kj31 t330 t334 (wrap64 (x7_2 + 1)) (mx (ji52) t346) (wrap64 (x9_2 + 1)) a0_0 l0_1 l0_2 l0_3 a0_4 a0_5)) = some r := by first | (rw [hji52] at H; exact H) | (simp only [hji52] at H ⊢; exact H)
                                  have hji52_ : (if 0 < (rd t330 x9_2) then (rd t330 x9_2) else 0) = ji52 := hji52
                                  obtain ⟨ji53, hji53⟩ : ∃ j_ : Int, (mx (ji52) t346) = j_ := ⟨_, rfl⟩
                                  replace H : (if (wrap64 (x9_2 + 1)) < (t330.length : Int) then (if 0 ≤ (wrap64 (x9_2 + 1)) then (if (wrap64 (x9_2 + 1)) < (l0_2.length : Int) then (if ((rd_T35 l0_2 (wrap64 (x9_2 + 1))).f0) = 24 then (bluebelllaw06_OcodeDown.l0 kj31 t330 t334 (wrap64 (x7_2 + 1)) ji53 (wrap64 (x9_2 + 1)) a0_0 l0_1 l0_2 l0_3 a0_4 a0_5) else (if (rd t330 (wrap64 (x9_2 + 1))) = t346 then (bluebelllaw06_OcodeDown.l0 kj31 t330 t334 (wrap64 (x7_2 + 1)) ji53 (wrap64 (x9_2 + 1)) a0_0 l0_1 l0_2 l0_3 a0_4 a0_5) else (some false))) else (none)) else (none)) else (bluebelllaw06_OcodeDown.l0 kj31 t330 t334 (wrap64 (x7_2 + 1)) ji53 (wrap64 (x9_2 + 1)) a0_0 l0_1 l0_2 l0_3 a0_4 a0_5)) = some r := by first | (rw [hji53] at H; exact H) | (simp only [hji53] at H ⊢; exact H)
                                  have hji53_ : (if (ji52) < t346 then t346 else (ji52)) = ji53 := hji53
                                  by_cases c54 : (wrap64 (x9_2 + 1)) < (t330.length : Int)
                                  · rw [if_pos c54] at H
                                    have c54b0 : decide ((wrap64 (x9_2 + 1)) < (t330.length : Int)) = true := decide_eq_true c54
                                    clear c54
                                    obtain ⟨ji55, hji55⟩ : ∃ j_ : Int, (wrap64 (x9_2 + 1)) = j_ := ⟨_, rfl⟩
                                    replace H : (if 0 ≤ (ji55) then (if (ji55) < (l0_2.length : Int) then (if ((rd_T35 l0_2 (ji55)).f0) = 24 then (bluebelllaw06_OcodeDown.l0 kj31 t330 t334 (wrap64 (x7_2 + 1)) ji53 ji55 a0_0 l0_1 l0_2 l0_3 a0_4 a0_5) else (if (rd t330 (ji55)) = t346 then (bluebelllaw06_OcodeDown.l0 kj31 t330 t334 (wrap64 (x7_2 + 1)) ji53 ji55 a0_0 l0_1 l0_2 l0_3 a0_4 a0_5) else (some false))) else (none)) else (none)) = some r := by first | (rw [hji55] at H; exact H) | (simp only [hji55] at H ⊢; exact H)
                                    (try rw [hji55] at c54b0)
                                    have hji55w : (IntKind.i64.wrap (x9_2 + 1)) = ji55 := (i64_w _).trans hji55
                                    by_cases c56 : 0 ≤ (ji55)
                                    · rw [if_pos c56] at H
                                      have c56b0 : decide (0 ≤ (ji55)) = true := decide_eq_true c56
                                      clear c56
                                      by_cases c57 : (ji55) < (l0_2.length : Int)
                                      · rw [if_pos c57] at H
                                        have c57b0 : decide ((ji55) < (l0_2.length : Int)) = true := decide_eq_true c57
                                        clear c57
                                        by_cases c58 : ((rd_T35 l0_2 (ji55)).f0) = 24
                                        · rw [if_pos c58] at H
                                          have c58b0 : (((rd_T35 l0_2 (ji55)).f0) == 24) = true := beq_iff_eq.mpr c58
                                          have c58b1 : (((rd_T35 l0_2 (ji55)).f0) != 24) = false := bne_eq_false_iff_eq.mpr c58
                                          clear c58
                                          have H' := Aside0.mk H
                                          clear H
                                          have p350 : 0 ≤ (x9_2 : Int) := of_decide_eq_true (by first | (with_reducible assumption) | assumption)
                                          have q350 : x9_2 < (t330.length : Int) := of_decide_eq_true (by first | (with_reducible assumption) | assumption)
                                          obtain ⟨ad350, e350, hx350_0⟩ := Kd.at_int (Kd.R_reads' HO_3.out).2.2 x9_2 p350 q350
                                          obtain rfl : ad345 = ad350 := (by injection e350)
                                          replace p350 := eq_true p350
                                          replace q350 := eq_true q350
                                          have hnb59 := NB327_344.out
                                          have hnc59 := NB344_327.out
                                          have hcz60_0 : wc.cell? ⟨gb327, 0, none⟩ = some (.string a0_0) := (blk_cell BK327.out 0).trans rfl
                                          have hcz60_1 : wc.cell? ⟨gb327, 1, none⟩ = some (.slice A0_1 l0_1.length c0_1) := (blk_cell BK327.out 1).trans rfl
                                          have hcz60_2 : wc.cell? ⟨gb327, 2, none⟩ = some (.slice (some ad343) l0_2.length c0_2) := (blk_cell BK327.out 2).trans rfl
                                          have hcz60_3 : wc.cell? ⟨gb327, 3, none⟩ = some (.slice A0_3 l0_3.length c0_3) := (blk_cell BK327.out 3).trans rfl
                                          have hcz60_4 : wc.cell? ⟨gb327, 4, none⟩ = some (.int .i64 a0_4) := (blk_cell BK327.out 4).trans rfl
                                          have hcz60_5 : wc.cell? ⟨gb327, 5, none⟩ = some (.int .i64 a0_5) := (blk_cell BK327.out 5).trans rfl
                                          have hfz60_0 := blk_frozen BK327.out 0
                                          have hfz60_1 := blk_frozen BK327.out 1
                                          have hfz60_2 := blk_frozen BK327.out 2
                                          have hfz60_3 := blk_frozen BK327.out 3
                                          have hfz60_4 := blk_frozen BK327.out 4
                                          have hfz60_5 := blk_frozen BK327.out 5
                                          have p351 : 0 ≤ ((ji55) : Int) := of_decide_eq_true (by first | (with_reducible assumption) | assumption)
                                          have q351 : (ji55) < (l0_2.length : Int) := of_decide_eq_true (by first | (with_reducible assumption) | assumption)
                                          obtain ⟨ad351, e351, hx351_0, hx351_1, hx351_2⟩ := at_T35 HR0_2.out (ji55) p351 q351
                                          obtain rfl : ad343 = ad351 := (by injection e351)
                                          replace hx351_0 := (HB.out.cell (World.block_lt_of_cell? w _ hx351_0)).trans hx351_0
                                          replace hx351_1 := (HB.out.cell (World.block_lt_of_cell? w _ hx351_1)).trans hx351_1
                                          replace hx351_2 := (HB.out.cell (World.block_lt_of_cell? w _ hx351_2)).trans hx351_2
                                          replace p351 := eq_true p351
                                          replace q351 := eq_true q351
                                          go_wp2
                                          go_roundg kj31
                                          case measure => have := HJ11.out; have := HK2.out; have := HJ31.out; omega
                                          case rel => exact ⟨(wrap64 (x7_2 + 1)), (ji53), (ji55), (by first | rfl | (simp; done) | (simp [*]; done)), (by first | rfl | (simp; done) | (simp only [← hji53] <;> (first | rfl | simp)) | (simp [*]; done)), (by first | rfl | (simp; done) | (simp only [← hji55] <;> (first | rfl | simp)) | (simp [*]; done)), H', ⟨by have := HJ11.out; have := HK2.out; have := HJ31.out; omega⟩, ⟨by (with_reducible repeat (first | apply Kd.R_alloc | apply Kd.R_drewN | apply Kd.R_drew)); exact HO_3.out⟩, ⟨by (with_reducible repeat (first | apply Kd.R_alloc | apply Kd.R_drewN | apply Kd.R_drew)); exact HO_5.out⟩, ⟨by (with_reducible repeat (first | refine blk_drewN ?_ _ | refine blk_drew ?_ | refine blk_alloc ?_ _)); exact BK327.out⟩, ⟨by repeat (first | (with_reducible first | exact HB.out | apply below_alloc | apply pw_below_drewN | apply below_drew1 | refine below_set ?_ GE327.out | refine below_set ?_ GE344.out) | exact HB.out)⟩⟩
                                        · rw [if_neg c58] at H
                                          have c58b0 : (((rd_T35 l0_2 (ji55)).f0) == 24) = false := beq_eq_false_iff_ne.mpr c58
                                          have c58b1 : (((rd_T35 l0_2 (ji55)).f0) != 24) = true := bne_iff_ne.mpr c58
                                          by_cases c61 : (rd t330 (ji55)) = t346
                                          · rw [if_pos c61] at H
                                            have c61b0 : ((rd t330 (ji55)) == t346) = true := beq_iff_eq.mpr c61
                                            have c61b1 : ((rd t330 (ji55)) != t346) = false := bne_eq_false_iff_eq.mpr c61
                                            clear c61
                                            have H' := Aside0.mk H
                                            clear H
                                            have p350 : 0 ≤ (x9_2 : Int) := of_decide_eq_true (by first | (with_reducible assumption) | assumption)
                                            have q350 : x9_2 < (t330.length : Int) := of_decide_eq_true (by first | (with_reducible assumption) | assumption)
                                            obtain ⟨ad350, e350, hx350_0⟩ := Kd.at_int (Kd.R_reads' HO_3.out).2.2 x9_2 p350 q350
                                            obtain rfl : ad345 = ad350 := (by injection e350)
                                            replace p350 := eq_true p350
                                            replace q350 := eq_true q350
                                            have hnb62 := NB327_344.out
                                            have hnc62 := NB344_327.out
                                            have hcz63_0 : wc.cell? ⟨gb327, 0, none⟩ = some (.string a0_0) := (blk_cell BK327.out 0).trans rfl
                                            have hcz63_1 : wc.cell? ⟨gb327, 1, none⟩ = some (.slice A0_1 l0_1.length c0_1) := (blk_cell BK327.out 1).trans rfl
                                            have hcz63_2 : wc.cell? ⟨gb327, 2, none⟩ = some (.slice (some ad343) l0_2.length c0_2) := (blk_cell BK327.out 2).trans rfl
                                            have hcz63_3 : wc.cell? ⟨gb327, 3, none⟩ = some (.slice A0_3 l0_3.length c0_3) := (blk_cell BK327.out 3).trans rfl
                                            have hcz63_4 : wc.cell? ⟨gb327, 4, none⟩ = some (.int .i64 a0_4) := (blk_cell BK327.out 4).trans rfl
                                            have hcz63_5 : wc.cell? ⟨gb327, 5, none⟩ = some (.int .i64 a0_5) := (blk_cell BK327.out 5).trans rfl
                                            have hfz63_0 := blk_frozen BK327.out 0
                                            have hfz63_1 := blk_frozen BK327.out 1
                                            have hfz63_2 := blk_frozen BK327.out 2
                                            have hfz63_3 := blk_frozen BK327.out 3
                                            have hfz63_4 := blk_frozen BK327.out 4
                                            have hfz63_5 := blk_frozen BK327.out 5
                                            have p351 : 0 ≤ ((ji55) : Int) := of_decide_eq_true (by first | (with_reducible assumption) | assumption)
                                            have q351 : (ji55) < (l0_2.length : Int) := of_decide_eq_true (by first | (with_reducible assumption) | assumption)
                                            obtain ⟨ad351, e351, hx351_0, hx351_1, hx351_2⟩ := at_T35 HR0_2.out (ji55) p351 q351
                                            obtain rfl : ad343 = ad351 := (by injection e351)
                                            replace hx351_0 := (HB.out.cell (World.block_lt_of_cell? w _ hx351_0)).trans hx351_0
                                            replace hx351_1 := (HB.out.cell (World.block_lt_of_cell? w _ hx351_1)).trans hx351_1
                                            replace hx351_2 := (HB.out.cell (World.block_lt_of_cell? w _ hx351_2)).trans hx351_2
                                            replace p351 := eq_true p351
                                            replace q351 := eq_true q351
                                            have p352 : 0 ≤ ((ji55) : Int) := of_decide_eq_true (by first | (with_reducible assumption) | assumption)
                                            have q352 : (ji55) < (t330.length : Int) := of_decide_eq_true (by first | (with_reducible assumption) | assumption)
                                            obtain ⟨ad352, e352, hx352_0⟩ := Kd.at_int (Kd.R_reads' HO_3.out).2.2 (ji55) p352 q352
                                            obtain rfl : ad345 = ad352 := (by injection e352)
                                            replace p352 := eq_true p352
                                            replace q352 := eq_true q352
                                            go_wp2
                                            go_roundg kj31
                                            case measure => have := HJ11.out; have := HK2.out; have := HJ31.out; omega
                                            case rel => exact ⟨(wrap64 (x7_2 + 1)), (ji53), (ji55), (by first | rfl | (simp; done) | (simp [*]; done)), (by first | rfl | (simp; done) | (simp only [← hji53] <;> (first | rfl | simp)) | (simp [*]; done)), (by first | rfl | (simp; done) | (simp only [← hji55] <;> (first | rfl | simp)) | (simp [*]; done)), H', ⟨by have := HJ11.out; have := HK2.out; have := HJ31.out; omega⟩, ⟨by (with_reducible repeat (first | apply Kd.R_alloc | apply Kd.R_drewN | apply Kd.R_drew)); exact HO_3.out⟩, ⟨by (with_reducible repeat (first | apply Kd.R_alloc | apply Kd.R_drewN | apply Kd.R_drew)); exact HO_5.out⟩, ⟨by (with_reducible repeat (first | refine blk_drewN ?_ _ | refine blk_drew ?_ | refine blk_alloc ?_ _)); exact BK327.out⟩, ⟨by repeat (first | (with_reducible first | exact HB.out | apply below_alloc | apply pw_below_drewN | apply below_drew1 | refine below_set ?_ GE327.out | refine below_set ?_ GE344.out) | exact HB.out)⟩⟩
                                          · rw [if_neg c61] at H
                                            have c61b0 : ((rd t330 (ji55)) == t346) = false := beq_eq_false_iff_ne.mpr c61
                                            have c61b1 : ((rd t330 (ji55)) != t346) = true := bne_iff_ne.mpr c61
                                            obtain rfl := Option.some.inj H
                                            have p350 : 0 ≤ (x9_2 : Int) := of_decide_eq_true (by first | (with_reducible assumption) | assumption)
                                            have q350 : x9_2 < (t330.length : Int) := of_decide_eq_true (by first | (with_reducible assumption) | assumption)
                                            obtain ⟨ad350, e350, hx350_0⟩ := Kd.at_int (Kd.R_reads' HO_3.out).2.2 x9_2 p350 q350
                                            obtain rfl : ad345 = ad350 := (by injection e350)
                                            replace p350 := eq_true p350
                                            replace q350 := eq_true q350
                                            have hnb64 := NB327_344.out
                                            have hnc64 := NB344_327.out
                                            have hcz65_0 : wc.cell? ⟨gb327, 0, none⟩ = some (.string a0_0) := (blk_cell BK327.out 0).trans rfl
                                            have hcz65_1 : wc.cell? ⟨gb327, 1, none⟩ = some (.slice A0_1 l0_1.length c0_1) := (blk_cell BK327.out 1).trans rfl
                                            have hcz65_2 : wc.cell? ⟨gb327, 2, none⟩ = some (.slice (some ad343) l0_2.length c0_2) := (blk_cell BK327.out 2).trans rfl
                                            have hcz65_3 : wc.cell? ⟨gb327, 3, none⟩ = some (.slice A0_3 l0_3.length c0_3) := (blk_cell BK327.out 3).trans rfl
                                            have hcz65_4 : wc.cell? ⟨gb327, 4, none⟩ = some (.int .i64 a0_4) := (blk_cell BK327.out 4).trans rfl
                                            have hcz65_5 : wc.cell? ⟨gb327, 5, none⟩ = some (.int .i64 a0_5) := (blk_cell BK327.out 5).trans rfl
                                            have hfz65_0 := blk_frozen BK327.out 0
                                            have hfz65_1 := blk_frozen BK327.out 1
                                            have hfz65_2 := blk_frozen BK327.out 2
                                            have hfz65_3 := blk_frozen BK327.out 3
                                            have hfz65_4 := blk_frozen BK327.out 4
                                            have hfz65_5 := blk_frozen BK327.out 5
                                            have p351 : 0 ≤ ((ji55) : Int) := of_decide_eq_true (by first | (with_reducible assumption) | assumption)
                                            have q351 : (ji55) < (l0_2.length : Int) := of_decide_eq_true (by first | (with_reducible assumption) | assumption)
                                            obtain ⟨ad351, e351, hx351_0, hx351_1, hx351_2⟩ := at_T35 HR0_2.out (ji55) p351 q351
                                            obtain rfl : ad343 = ad351 := (by injection e351)
                                            replace hx351_0 := (HB.out.cell (World.block_lt_of_cell? w _ hx351_0)).trans hx351_0
                                            replace hx351_1 := (HB.out.cell (World.block_lt_of_cell? w _ hx351_1)).trans hx351_1
                                            replace hx351_2 := (HB.out.cell (World.block_lt_of_cell? w _ hx351_2)).trans hx351_2
                                            replace p351 := eq_true p351
                                            replace q351 := eq_true q351
                                            have p352 : 0 ≤ ((ji55) : Int) := of_decide_eq_true (by first | (with_reducible assumption) | assumption)
                                            have q352 : (ji55) < (t330.length : Int) := of_decide_eq_true (by first | (with_reducible assumption) | assumption)
                                            obtain ⟨ad352, e352, hx352_0⟩ := Kd.at_int (Kd.R_reads' HO_3.out).2.2 (ji55) p352 q352
                                            obtain rfl : ad345 = ad352 := (by injection e352)
                                            replace p352 := eq_true p352
                                            replace q352 := eq_true q352
                                            go_wp2
                                            go_ret
                                            exact ⟨by first | rfl | (simp [errW_none, errW_some] <;> rfl) | (simp only [← hji52, ← hji53, ← hji55]; first | rfl | (simp [errW_none, errW_some] <;> rfl)) | (simp [*, errW_none, errW_some] <;> rfl), by repeat (first | (with_reducible first | exact HB.out | apply below_alloc | apply pw_below_drewN | apply below_drew1 | refine below_set ?_ GE327.out | refine below_set ?_ GE344.out) | exact HB.out)⟩
                                      · rw [if_neg c57] at H
                                        exact absurd H (by simp)
                                    · rw [if_neg c56] at H
                                      exact absurd H (by simp)
                                  · rw [if_neg c54] at H
                                    have c54b0 : decide ((wrap64 (x9_2 + 1)) < (t330.length : Int)) = false := decide_eq_false c54
                                    clear c54
                                    have H' := Aside0.mk H
                                    clear H
                                    have p350 : 0 ≤ (x9_2 : Int) := of_decide_eq_true (by first | (with_reducible assumption) | assumption)
                                    have q350 : x9_2 < (t330.length : Int) := of_decide_eq_true (by first | (with_reducible assumption) | assumption)
                                    obtain ⟨ad350, e350, hx350_0⟩ := Kd.at_int (Kd.R_reads' HO_3.out).2.2 x9_2 p350 q350
                                    obtain rfl : ad345 = ad350 := (by injection e350)
                                    replace p350 := eq_true p350
                                    replace q350 := eq_true q350
                                    go_wp2
                                    go_roundg kj31
                                    case measure => have := HJ11.out; have := HK2.out; have := HJ31.out; omega
                                    case rel => exact ⟨(wrap64 (x7_2 + 1)), (ji53), (wrap64 (x9_2 + 1)), (by first | rfl | (simp; done) | (simp [*]; done)), (by first | rfl | (simp; done) | (simp only [← hji53] <;> (first | rfl | simp)) | (simp [*]; done)), (by first | rfl | (simp; done) | (simp [*]; done)), H', ⟨by have := HJ11.out; have := HK2.out; have := HJ31.out; omega⟩, ⟨by (with_reducible repeat (first | apply Kd.R_alloc | apply Kd.R_drewN | apply Kd.R_drew)); exact HO_3.out⟩, ⟨by (with_reducible repeat (first | apply Kd.R_alloc | apply Kd.R_drewN | apply Kd.R_drew)); exact HO_5.out⟩, ⟨by (with_reducible repeat (first | refine blk_drewN ?_ _ | refine blk_drew ?_ | refine blk_alloc ?_ _)); exact BK327.out⟩, ⟨by repeat (first | (with_reducible first | exact HB.out | apply below_alloc | apply pw_below_drewN | apply below_drew1 | refine below_set ?_ GE327.out | refine below_set ?_ GE344.out) | exact HB.out)⟩⟩
                                · rw [if_neg c51] at H
                                  exact absurd H (by simp)
                              · rw [if_neg c50] at H
                                exact absurd H (by simp)
                      · rw [if_neg c31] at H
                        have c31b0 : (((rd_T35 l0_2 x9_2).f0) == 24) = false := beq_eq_false_iff_ne.mpr c31
                        have c31b1 : (((rd_T35 l0_2 x9_2).f0) != 24) = true := bne_iff_ne.mpr c31
                        have HC66 := Aside0.mk H
                        clear H
                        obtain ⟨Ao67, co67, eo67⟩ := Kd.R_slice HO_3.out
                        subst eo67
                        have hcz68_0 : wr.cell? ⟨gb327, 0, none⟩ = some (.string a0_0) := (blk_cell BK327.out 0).trans rfl
                        have hcz68_1 : wr.cell? ⟨gb327, 1, none⟩ = some (.slice A0_1 l0_1.length c0_1) := (blk_cell BK327.out 1).trans rfl
                        have hcz68_2 : wr.cell? ⟨gb327, 2, none⟩ = some (.slice A0_2 l0_2.length c0_2) := (blk_cell BK327.out 2).trans rfl
                        have hcz68_3 : wr.cell? ⟨gb327, 3, none⟩ = some (.slice A0_3 l0_3.length c0_3) := (blk_cell BK327.out 3).trans rfl
                        have hcz68_4 : wr.cell? ⟨gb327, 4, none⟩ = some (.int .i64 a0_4) := (blk_cell BK327.out 4).trans rfl
                        have hcz68_5 : wr.cell? ⟨gb327, 5, none⟩ = some (.int .i64 a0_5) := (blk_cell BK327.out 5).trans rfl
                        have hfz68_0 := blk_frozen BK327.out 0
                        have hfz68_1 := blk_frozen BK327.out 1
                        have hfz68_2 := blk_frozen BK327.out 2
                        have hfz68_3 := blk_frozen BK327.out 3
                        have hfz68_4 := blk_frozen BK327.out 4
                        have hfz68_5 := blk_frozen BK327.out 5
                        have p343 : 0 ≤ (x9_2 : Int) := of_decide_eq_true (by first | (with_reducible assumption) | assumption)
                        have q343 : x9_2 < (l0_2.length : Int) := of_decide_eq_true (by first | (with_reducible assumption) | assumption)
                        obtain ⟨ad343, e343, hx343_0, hx343_1, hx343_2⟩ := at_T35 HR0_2.out x9_2 p343 q343
                        cases e343
                        replace hx343_0 := (HB.out.cell (World.block_lt_of_cell? w _ hx343_0)).trans hx343_0
                        replace hx343_1 := (HB.out.cell (World.block_lt_of_cell? w _ hx343_1)).trans hx343_1
                        replace hx343_2 := (HB.out.cell (World.block_lt_of_cell? w _ hx343_2)).trans hx343_2
                        replace p343 := eq_true p343
                        replace q343 := eq_true q343
                        try go_wp2_with (first | ((with_reducible refine gate_dst (N := 10) rfl ?_); (try (refine gate_guard (by rfl) ?_; dsimp only)); refine box_event ?hg (N := 10) ?hd (cs := #[.int .i64 0, .int .i64 0, .int .i64 0]) (t := 35) ?hr ?_; (case hd => rfl); (case hg => rfl); (case hr => first | (go_simp; done) | (go_simp; rfl)); intro gb344 hg w69 hbox hb; have n0_ := Aside0.mk (Kd.R_below (by (with_reducible repeat (first | apply Kd.R_alloc | apply Kd.R_drewN | apply Kd.R_drew)); exact HO_3.out) hb); have n1_ := Aside0.mk (Kd.R_below (by (with_reducible repeat (first | apply Kd.R_alloc | apply Kd.R_drewN | apply Kd.R_drew)); exact HO_5.out) hb); have n2_ := Aside0.mk (blk_below (g := gb327) (o := .cells #[.string a0_0, .slice A0_1 l0_1.length c0_1, .slice (some ad343) l0_2.length c0_2, .slice A0_3 l0_3.length c0_3, .int .i64 a0_4, .int .i64 a0_5] 26 (0, 0)) (by (with_reducible repeat (first | refine blk_drewN ?_ _ | refine blk_drew ?_ | refine blk_alloc ?_ _)); exact BK327.out) hb); have n3_ := Aside0.mk (below_step (by repeat (first | (with_reducible first | exact HB.out | apply below_alloc | apply pw_below_drewN | apply below_drew1 | refine below_set ?_ GE327.out) | exact HB.out)) hb); have n4_ := Aside0.mk (hbox); have n5_ := Aside0.mk ((by rw [hg]; exact (below_size (by repeat (first | (with_reducible first | exact HB.out | apply below_alloc | apply pw_below_drewN | apply below_drew1 | refine below_set ?_ GE327.out) | exact HB.out))) : w.heap.size ≤ gb344)); have n6_ := Aside0.mk ((by rw [hg]; exact (below_size (by repeat (first | (with_reducible first | exact HB.out | apply below_alloc | apply pw_below_drewN | apply below_drew1 | refine below_set ?_ GE327.out) | exact HB.out))) : w.heap.size ≤ gb344)); have n7_ := Aside0.mk ((by rw [hg]; exact Nat.ne_of_lt (blk_lt (g := gb327) (o := .cells #[.string a0_0, .slice A0_1 l0_1.length c0_1, .slice (some ad343) l0_2.length c0_2, .slice A0_3 l0_3.length c0_3, .int .i64 a0_4, .int .i64 a0_5] 26 (0, 0)) (by (with_reducible repeat (first | refine blk_drewN ?_ _ | refine blk_drew ?_ | refine blk_alloc ?_ _)); exact BK327.out)) : gb327 ≠ gb344)); have n8_ := Aside0.mk ((by rw [hg]; exact Nat.ne_of_gt (blk_lt (g := gb327) (o := .cells #[.string a0_0, .slice A0_1 l0_1.length c0_1, .slice (some ad343) l0_2.length c0_2, .slice A0_3 l0_3.length c0_3, .int .i64 a0_4, .int .i64 a0_5] 26 (0, 0)) (by (with_reducible repeat (first | refine blk_drewN ?_ _ | refine blk_drew ?_ | refine blk_alloc ?_ _)); exact BK327.out)) : gb344 ≠ gb327)); clear HO_3; clear HO_5; clear BK327; clear HB; have HO_3 := n0_; have HO_5 := n1_; have BK327 := n2_; have HB := n3_; have BK344 := n4_; have GW344 := n5_; have GE344 := n6_; have NB327_344 := n7_; have NB344_327 := n8_; clear n0_ n1_ n2_ n3_ n4_ n5_ n6_ n7_ n8_; clear hb hbox hg; have hnb70 := NB344_327.out; have hnc70 := NB327_344.out; have hcz71_0 : w69.cell? ⟨gb344, 0, none⟩ = some (.int .i64 0) := (blk_cell BK344.out 0).trans rfl; have hcz71_1 : w69.cell? ⟨gb344, 1, none⟩ = some (.int .i64 0) := (blk_cell BK344.out 1).trans rfl; have hcz71_2 : w69.cell? ⟨gb344, 2, none⟩ = some (.int .i64 0) := (blk_cell BK344.out 2).trans rfl; have hfz71_0 := blk_frozen BK344.out 0; have hfz71_1 := blk_frozen BK344.out 1; have hfz71_2 := blk_frozen BK344.out 2))
                        have n0_ : Aside0 (Kd.R (Kd.int .i64) 3 (((w69.setCell ⟨gb344, 0, none⟩ (.int .i64 ((rd_T35 l0_2 x9_2).f0))).setCell ⟨gb344, 1, none⟩ (.int .i64 ((rd_T35 l0_2 x9_2).f1))).setCell ⟨gb344, 2, none⟩ (.int .i64 ((rd_T35 l0_2 x9_2).f2))) w.heap.size (fun k_ => some k_ ≠ (v335 : Value).ownBlock) (.slice Ao67 t330.length co67) t330) := ⟨by (with_reducible repeat (first | apply Kd.R_alloc | apply Kd.R_drewN | apply Kd.R_drew)); exact Kd.R_mono (Kd.R_far (p := ⟨gb344, 2, none⟩) (Kd.R_far (p := ⟨gb344, 1, none⟩) (Kd.R_far (p := ⟨gb344, 0, none⟩) (Kd.R_types HO_3.out BK344.out (by decide)) (fun _ hk => hk.2) (.int .i64 ((rd_T35 l0_2 x9_2).f0))) (fun _ hk => hk.2) (.int .i64 ((rd_T35 l0_2 x9_2).f1))) (fun _ hk => hk.2) (.int .i64 ((rd_T35 l0_2 x9_2).f2))) (fun _ hk => hk.1)⟩
                        have n1_ : Aside0 (Kd.R (Kd.int .i64) 3 (((w69.setCell ⟨gb344, 0, none⟩ (.int .i64 ((rd_T35 l0_2 x9_2).f0))).setCell ⟨gb344, 1, none⟩ (.int .i64 ((rd_T35 l0_2 x9_2).f1))).setCell ⟨gb344, 2, none⟩ (.int .i64 ((rd_T35 l0_2 x9_2).f2))) w.heap.size (fun k_ => some k_ ≠ (.slice Ao67 t330.length co67 : Value).ownBlock) v335 t334) := ⟨by (with_reducible repeat (first | apply Kd.R_alloc | apply Kd.R_drewN | apply Kd.R_drew)); exact Kd.R_mono (Kd.R_far (p := ⟨gb344, 2, none⟩) (Kd.R_far (p := ⟨gb344, 1, none⟩) (Kd.R_far (p := ⟨gb344, 0, none⟩) (Kd.R_types HO_5.out BK344.out (by decide)) (fun _ hk => hk.2) (.int .i64 ((rd_T35 l0_2 x9_2).f0))) (fun _ hk => hk.2) (.int .i64 ((rd_T35 l0_2 x9_2).f1))) (fun _ hk => hk.2) (.int .i64 ((rd_T35 l0_2 x9_2).f2))) (fun _ hk => hk.1)⟩
                        have n2_ : Aside0 ((((w69.setCell ⟨gb344, 0, none⟩ (.int .i64 ((rd_T35 l0_2 x9_2).f0))).setCell ⟨gb344, 1, none⟩ (.int .i64 ((rd_T35 l0_2 x9_2).f1))).setCell ⟨gb344, 2, none⟩ (.int .i64 ((rd_T35 l0_2 x9_2).f2))).heap[gb327]? = some (.cells #[.string a0_0, .slice A0_1 l0_1.length c0_1, .slice (some ad343) l0_2.length c0_2, .slice A0_3 l0_3.length c0_3, .int .i64 a0_4, .int .i64 a0_5] 26 (0, 0))) := ⟨by (with_reducible repeat (first | refine blk_drewN ?_ _ | refine blk_drew ?_ | refine blk_alloc ?_ _)); refine blk_far ?_ NB327_344.out _; (with_reducible repeat (first | refine blk_drewN ?_ _ | refine blk_drew ?_ | refine blk_alloc ?_ _)); refine blk_far ?_ NB327_344.out _; (with_reducible repeat (first | refine blk_drewN ?_ _ | refine blk_drew ?_ | refine blk_alloc ?_ _)); refine blk_far ?_ NB327_344.out _; (with_reducible repeat (first | refine blk_drewN ?_ _ | refine blk_drew ?_ | refine blk_alloc ?_ _)); exact BK327.out⟩
                        have n3_ : Aside0 ((((w69.setCell ⟨gb344, 0, none⟩ (.int .i64 ((rd_T35 l0_2 x9_2).f0))).setCell ⟨gb344, 1, none⟩ (.int .i64 ((rd_T35 l0_2 x9_2).f1))).setCell ⟨gb344, 2, none⟩ (.int .i64 ((rd_T35 l0_2 x9_2).f2))).heap[gb344]? = some (.cells #[.int .i64 ((rd_T35 l0_2 x9_2).f0), .int .i64 ((rd_T35 l0_2 x9_2).f1), .int .i64 ((rd_T35 l0_2 x9_2).f2)] 35 (0, 0))) := ⟨by (with_reducible repeat (first | refine blk_drewN ?_ _ | refine blk_drew ?_ | refine blk_alloc ?_ _)); refine blk_put (cs := #[.int .i64 ((rd_T35 l0_2 x9_2).f0), .int .i64 ((rd_T35 l0_2 x9_2).f1), .int .i64 0]) ?_ 2 _ rfl; (with_reducible repeat (first | refine blk_drewN ?_ _ | refine blk_drew ?_ | refine blk_alloc ?_ _)); refine blk_put (cs := #[.int .i64 ((rd_T35 l0_2 x9_2).f0), .int .i64 0, .int .i64 0]) ?_ 1 _ rfl; (with_reducible repeat (first | refine blk_drewN ?_ _ | refine blk_drew ?_ | refine blk_alloc ?_ _)); refine blk_put (cs := #[.int .i64 0, .int .i64 0, .int .i64 0]) ?_ 0 _ rfl; (with_reducible repeat (first | refine blk_drewN ?_ _ | refine blk_drew ?_ | refine blk_alloc ?_ _)); exact BK344.out⟩
                        have n4_ : Aside0 (Below w.heap.size w (((w69.setCell ⟨gb344, 0, none⟩ (.int .i64 ((rd_T35 l0_2 x9_2).f0))).setCell ⟨gb344, 1, none⟩ (.int .i64 ((rd_T35 l0_2 x9_2).f1))).setCell ⟨gb344, 2, none⟩ (.int .i64 ((rd_T35 l0_2 x9_2).f2)))) := ⟨by repeat (first | (with_reducible first | exact HB.out | apply below_alloc | apply pw_below_drewN | apply below_drew1 | refine below_set ?_ GE327.out | refine below_set ?_ GE344.out) | exact HB.out)⟩
                        (try clear HO_3)
                        (try clear HO_5)
                        (try clear BK327)
                        (try clear BK344)
                        (try clear HB)
                        generalize (((w69.setCell ⟨gb344, 0, none⟩ (.int .i64 ((rd_T35 l0_2 x9_2).f0))).setCell ⟨gb344, 1, none⟩ (.int .i64 ((rd_T35 l0_2 x9_2).f1))).setCell ⟨gb344, 2, none⟩ (.int .i64 ((rd_T35 l0_2 x9_2).f2))) = w72 at n0_ n1_ n2_ n3_ n4_ ⊢
                        have HO_3 := n0_
                        have HO_5 := n1_
                        have BK327 := n2_
                        have BK344 := n3_
                        have HB := n4_
                        clear n0_ n1_ n2_ n3_ n4_
                        have n0_ := Aside0.mk (Kd.R_drew HO_3.out)
                        have n1_ := Aside0.mk (Kd.R_drew HO_5.out)
                        have n2_ := Aside0.mk (blk_drew BK327.out)
                        have n3_ := Aside0.mk (blk_drew BK344.out)
                        have n4_ := Aside0.mk (below_drew1 HB.out)
                        clear HO_3
                        clear HO_5
                        clear BK327
                        clear BK344
                        clear HB
                        have HO_3 := n0_
                        have HO_5 := n1_
                        have BK327 := n2_
                        have BK344 := n3_
                        have HB := n4_
                        clear n0_ n1_ n2_ n3_ n4_
                        have p345 : 0 ≤ (x9_2 : Int) := of_decide_eq_true (by first | (with_reducible assumption) | assumption)
                        have q345 : x9_2 < (t330.length : Int) := of_decide_eq_true (by first | (with_reducible assumption) | assumption)
                        obtain ⟨ad345, e345, hx345_0⟩ := Kd.at_int (Kd.R_reads' HO_3.out).2.2 x9_2 p345 q345
                        cases e345
                        replace p345 := eq_true p345
                        replace q345 := eq_true q345
                        refine start_ (n := 7) (S := fun w' => w'.cell? ⟨gb344, 0, none⟩ = some (.int .i64 ((rd_T35 l0_2 x9_2).f0)) ∧ w'.cell? ⟨gb344, 1, none⟩ = some (.int .i64 ((rd_T35 l0_2 x9_2).f1)) ∧ w'.cell? ⟨gb344, 2, none⟩ = some (.int .i64 ((rd_T35 l0_2 x9_2).f2)) ∧ w'.cell? (ad345.add (x9_2).toNat) = some (.int .i64 (rd t330 x9_2))) (ds := []) #[false, false, false, false, false, false, false] (by kernel_rfl) rfl rfl ⟨(blk_cell BK344.out 0).trans rfl, (blk_cell BK344.out 1).trans rfl, (blk_cell BK344.out 2).trans rfl, hx345_0⟩ (fun hHeld => ?_)
                        generalize w72.drew = w73 at HO_3 HO_5 BK327 BK344 HB hx345_0 hHeld ⊢
                        refine pure_ (i := 1) (N := some 64) (v := ?_) (a' := ?_) #[false, true, false, false, false, false, false] rfl rfl (by kernel_rfl) (fun _ _ _ h => h) (Or.inl ⟨by rfl, ?_⟩) ?_ ?_
                        rotate_left
                        · intro w'
                          go_simp
                          with_reducible rfl
                        rotate_left
                        · simp only [Act.put, List.setIfInBounds_toArray, List.set_cons_zero, List.set_cons_succ, i64_w, i32_w]
                          rfl
                        refine pure_ (i := 2) (N := some 65) (v := ?_) (a' := ?_) #[false, true, true, false, false, false, false] rfl rfl (by kernel_rfl) (fun _ _ _ h => h) (Or.inl ⟨by rfl, ?_⟩) ?_ ?_
                        rotate_left
                        · intro w'
                          go_simp
                          with_reducible rfl
                        rotate_left
                        · simp only [Act.put, List.setIfInBounds_toArray, List.set_cons_zero, List.set_cons_succ, i64_w, i32_w]
                          rfl
                        refine pure_ (i := 3) (N := some 66) (v := ?_) (a' := ?_) #[false, true, true, true, false, false, false] rfl rfl (by kernel_rfl) (fun _ _ _ h => h) (Or.inl ⟨by rfl, ?_⟩) ?_ ?_
                        rotate_left
                        · intro w'
                          go_simp
                          with_reducible rfl
                        rotate_left
                        · simp only [Act.put, List.setIfInBounds_toArray, List.set_cons_zero, List.set_cons_succ, i64_w, i32_w]
                          rfl
                        refine take_ (i := 0) (N := some 63) (v := ?_) (a' := ?_) #[true, true, true, true, false, false, false] rfl rfl (by kernel_rfl) (fun _ _ _ h => h) (Or.inl ⟨by rfl, ?_⟩) hHeld ?_ ?_
                        rotate_left
                        · rintro w' ⟨s0, s1, s2, s3⟩
                          go_simp
                          with_reducible rfl
                        rotate_left
                        · simp only [Act.put, List.setIfInBounds_toArray, List.set_cons_zero, List.set_cons_succ, i64_w, i32_w]
                          rfl
                        refine take_ (i := 4) (N := some 67) (v := ?_) (a' := ?_) #[true, true, true, true, true, false, false] rfl rfl (by kernel_rfl) (fun _ _ _ h => h) (Or.inl ⟨by rfl, ?_⟩) hHeld ?_ ?_
                        rotate_left
                        · rintro w' ⟨s0, s1, s2, s3⟩
                          go_simp
                          with_reducible rfl
                        rotate_left
                        · simp only [Act.put, List.setIfInBounds_toArray, List.set_cons_zero, List.set_cons_succ, i64_w, i32_w]
                          rfl
                        refine one_ (i := 5) (N := some 68) #[true, true, true, true, true, true, false] rfl rfl (by kernel_rfl) (by decide) (fun K hK => ?_)
                        refine goes_ Try.func21 (by kernel_rfl) rfl #[.agg #[.int .i64 ((rd_T35 l0_2 x9_2).f0), .int .i64 ((rd_T35 l0_2 x9_2).f1), .int .i64 ((rd_T35 l0_2 x9_2).f2)], .int .i64 (rd t330 x9_2)] (by rfl) rfl rfl (by (try simp only [List.map_toArray, List.map_cons, List.map_nil]); first | done | rfl | (simp only [List.length_drop, List.length_take]; rfl)) ?_
                        with_reducible refine (bluebellref06_After.calls k2 ((rd_T35 l0_2 x9_2).f0) ((rd_T35 l0_2 x9_2).f1) ((rd_T35 l0_2 x9_2).f2) (rd t330 x9_2) t346 _ A30.out).mono ?_
                        rintro e w74 ⟨rfl, hb⟩
                        have HS3_ := (hb.cell (World.block_lt_of_cell? _ _ (hHeld.2.2.2))).trans (hHeld.2.2.2)
                        refine ⟨_, rfl, ?_⟩
                        have n0_ := Aside0.mk (Kd.R_below (by (with_reducible repeat (first | apply Kd.R_alloc | apply Kd.R_drewN | apply Kd.R_drew)); exact HO_3.out) hb)
                        have n1_ := Aside0.mk (Kd.R_below (by (with_reducible repeat (first | apply Kd.R_alloc | apply Kd.R_drewN | apply Kd.R_drew)); exact HO_5.out) hb)
                        have n2_ := Aside0.mk (blk_below (g := gb327) (o := .cells #[.string a0_0, .slice A0_1 l0_1.length c0_1, .slice (some ad343) l0_2.length c0_2, .slice A0_3 l0_3.length c0_3, .int .i64 a0_4, .int .i64 a0_5] 26 (0, 0)) (by (with_reducible repeat (first | refine blk_drewN ?_ _ | refine blk_drew ?_ | refine blk_alloc ?_ _)); exact BK327.out) hb)
                        have n3_ := Aside0.mk (blk_below (g := gb344) (o := .cells #[.int .i64 ((rd_T35 l0_2 x9_2).f0), .int .i64 ((rd_T35 l0_2 x9_2).f1), .int .i64 ((rd_T35 l0_2 x9_2).f2)] 35 (0, 0)) (by (with_reducible repeat (first | refine blk_drewN ?_ _ | refine blk_drew ?_ | refine blk_alloc ?_ _)); exact BK344.out) hb)
                        have n4_ := Aside0.mk (below_step (by repeat (first | (with_reducible first | exact HB.out | apply below_alloc | apply pw_below_drewN | apply below_drew1 | refine below_set ?_ GE327.out | refine below_set ?_ GE344.out) | exact HB.out)) hb)
                        clear HO_3
                        clear HO_5
                        clear BK327
                        clear BK344
                        clear HB
                        have HO_3 := n0_
                        have HO_5 := n1_
                        have BK327 := n2_
                        have BK344 := n3_
                        have HB := n4_
                        clear n0_ n1_ n2_ n3_ n4_
                        (try clear hb)
                        (try clear hb2)
                        (try clear hk)
                        (try clear hi)
                        refine hK.out _ _ ⟨(blk_cell BK344.out 0).trans rfl, (blk_cell BK344.out 1).trans rfl, (blk_cell BK344.out 2).trans rfl, HS3_⟩ (fun hHeld => ?_)
                        clear hK K
                        refine norm_ (a' := ?_) ?_ ?_
                        rotate_left
                        · show Act.put _ (some 68) _ = _
                          simp only [Act.put, List.setIfInBounds_toArray, List.set_cons_zero, List.set_cons_succ, i64_w, i32_w]
                          rfl
                        refine pure_ (i := 6) (N := some 11) (v := ?_) (a' := ?_) #[true, true, true, true, true, true, true] rfl rfl (by kernel_rfl) (fun _ _ _ h => h) (Or.inl ⟨by rfl, ?_⟩) ?_ ?_
                        rotate_left
                        · intro w'
                          go_simp
                          with_reducible rfl
                        rotate_left
                        · simp only [Act.put, List.setIfInBounds_toArray, List.set_cons_zero, List.set_cons_succ, i64_w, i32_w]
                          rfl
                        refine done_ (by kernel_rfl) ?_
                        have hcz75_0 : w74.cell? ⟨gb344, 0, none⟩ = some (.int .i64 ((rd_T35 l0_2 x9_2).f0)) := (blk_cell BK344.out 0).trans rfl
                        have hcz75_1 : w74.cell? ⟨gb344, 1, none⟩ = some (.int .i64 ((rd_T35 l0_2 x9_2).f1)) := (blk_cell BK344.out 1).trans rfl
                        have hcz75_2 : w74.cell? ⟨gb344, 2, none⟩ = some (.int .i64 ((rd_T35 l0_2 x9_2).f2)) := (blk_cell BK344.out 2).trans rfl
                        have hfz75_0 := blk_frozen BK344.out 0
                        have hfz75_1 := blk_frozen BK344.out 1
                        have hfz75_2 := blk_frozen BK344.out 2
                        go_upto_region 20 with (fail)
                        go_cut [103] (fun v103 wc => ∃ (kq : Nat) (x103_65 : Bool), v103 = .bool x103_65 ∧ Aside0 (bluebelllaw06_OcodeDown.j3 kq t330 t334 x7_2 x8_2 x9_2 t346 x103_65 a0_0 l0_1 l0_2 l0_3 a0_4 a0_5 = some r) ∧ Aside0 (kq ≤ k2) ∧ Aside0 (Kd.R (Kd.int .i64) 3 wc w.heap.size (fun k_ => some k_ ≠ (v335 : Value).ownBlock) (.slice (some ad345) t330.length co67) t330) ∧ Aside0 (Kd.R (Kd.int .i64) 3 wc w.heap.size (fun k_ => some k_ ≠ ((.slice (some ad345) t330.length co67) : Value).ownBlock) v335 t334) ∧ Aside0 (wc.heap[gb327]? = some (.cells #[.string a0_0, (.slice A0_1 l0_1.length c0_1), (.slice (some ad343) l0_2.length c0_2), (.slice A0_3 l0_3.length c0_3), .int .i64 a0_4, .int .i64 a0_5] 26 (0, 0))) ∧ Aside0 (wc.heap[gb344]? = some (.cells #[.int .i64 ((rd_T35 l0_2 x9_2).f0), .int .i64 ((rd_T35 l0_2 x9_2).f1), .int .i64 ((rd_T35 l0_2 x9_2).f2)] 35 (0, 0))) ∧ Aside0 (Below w.heap.size w wc))
                        case first =>
                          have H := HC66.out
                          clear HC66
                          by_cases c76 : (rd t330 x9_2) < 2
                          · rw [if_pos c76] at H
                            have c76b0 : decide ((rd t330 x9_2) < 2) = true := decide_eq_true c76
                            clear c76
                            (first | rw [c76b0] | (simp only [i64_w, i32_w]; rw [c76b0]) | skip)
                            have H' := Aside0.mk H
                            clear H
                            have p353 : 0 ≤ (x9_2 : Int) := of_decide_eq_true (by first | (with_reducible assumption) | assumption)
                            have q353 : x9_2 < (t330.length : Int) := of_decide_eq_true (by first | (with_reducible assumption) | assumption)
                            obtain ⟨ad353, e353, hx353_0⟩ := Kd.at_int (Kd.R_reads' HO_3.out).2.2 x9_2 p353 q353
                            obtain rfl : ad345 = ad353 := (by injection e353)
                            replace p353 := eq_true p353
                            replace q353 := eq_true q353
                            go_wp2
                            (first | go_meet | (refine Met.intro ?_; go_step; (repeat apply Exists.intro); refine ⟨?rel, ?fr_⟩; (case fr_ => first | (simp only [c76b0]; done) | (simp only [c76b0]; rfl) | (simp only [c76b0]; rfl))))
                            case rel => exact ⟨_, (true), (by first | rfl | (simp; done) | (simp [*]; done)), H', ⟨by have := HJ11.out; have := HK2.out; first | omega | exact Nat.le_refl _⟩, ⟨by (with_reducible repeat (first | apply Kd.R_alloc | apply Kd.R_drewN | apply Kd.R_drew)); exact HO_3.out⟩, ⟨by (with_reducible repeat (first | apply Kd.R_alloc | apply Kd.R_drewN | apply Kd.R_drew)); exact HO_5.out⟩, ⟨by (with_reducible repeat (first | refine blk_drewN ?_ _ | refine blk_drew ?_ | refine blk_alloc ?_ _)); exact BK327.out⟩, ⟨by (with_reducible repeat (first | refine blk_drewN ?_ _ | refine blk_drew ?_ | refine blk_alloc ?_ _)); exact BK344.out⟩, ⟨by repeat (first | (with_reducible first | exact HB.out | apply below_alloc | apply pw_below_drewN | apply below_drew1 | refine below_set ?_ GE327.out | refine below_set ?_ GE344.out) | exact HB.out)⟩⟩
                          · rw [if_neg c76] at H
                            have c76b0 : decide ((rd t330 x9_2) < 2) = false := decide_eq_false c76
                            clear c76
                            (first | rw [c76b0] | (simp only [i64_w, i32_w]; rw [c76b0]) | skip)
                            have H' := Aside0.mk H
                            clear H
                            have p353 : 0 ≤ (x9_2 : Int) := of_decide_eq_true (by first | (with_reducible assumption) | assumption)
                            have q353 : x9_2 < (t330.length : Int) := of_decide_eq_true (by first | (with_reducible assumption) | assumption)
                            obtain ⟨ad353, e353, hx353_0⟩ := Kd.at_int (Kd.R_reads' HO_3.out).2.2 x9_2 p353 q353
                            obtain rfl : ad345 = ad353 := (by injection e353)
                            replace p353 := eq_true p353
                            replace q353 := eq_true q353
                            have p354 : 0 ≤ (x9_2 : Int) := of_decide_eq_true (by first | (with_reducible assumption) | assumption)
                            have q354 : x9_2 < (t330.length : Int) := of_decide_eq_true (by first | (with_reducible assumption) | assumption)
                            obtain ⟨ad354, e354, hx354_0⟩ := Kd.at_int (Kd.R_reads' HO_3.out).2.2 x9_2 p354 q354
                            obtain rfl : ad345 = ad354 := (by injection e354)
                            replace p354 := eq_true p354
                            replace q354 := eq_true q354
                            go_wp2
                            (first | go_meet | (refine Met.intro ?_; go_step; (repeat apply Exists.intro); refine ⟨?rel, ?fr_⟩; (case fr_ => first | (simp only [c76b0]; done) | (simp only [c76b0]; rfl) | (simp only [c76b0]; rfl))))
                            case rel => exact ⟨_, (decide ((rd t330 x9_2) > 4000)), (by first | rfl | (simp; done) | (simp [*]; done)), H', ⟨by have := HJ11.out; have := HK2.out; first | omega | exact Nat.le_refl _⟩, ⟨by (with_reducible repeat (first | apply Kd.R_alloc | apply Kd.R_drewN | apply Kd.R_drew)); exact HO_3.out⟩, ⟨by (with_reducible repeat (first | apply Kd.R_alloc | apply Kd.R_drewN | apply Kd.R_drew)); exact HO_5.out⟩, ⟨by (with_reducible repeat (first | refine blk_drewN ?_ _ | refine blk_drew ?_ | refine blk_alloc ?_ _)); exact BK327.out⟩, ⟨by (with_reducible repeat (first | refine blk_drewN ?_ _ | refine blk_drew ?_ | refine blk_alloc ?_ _)); exact BK344.out⟩, ⟨by repeat (first | (with_reducible first | exact HB.out | apply below_alloc | apply pw_below_drewN | apply below_drew1 | refine below_set ?_ GE327.out | refine below_set ?_ GE344.out) | exact HB.out)⟩⟩
                        case rest =>
                          clear HC66
                          try clear c1
                          try clear c2
                          try clear p2
                          try clear c3
                          try clear p3
                          try clear q3
                          try clear hx3
                          try clear c4
                          try clear c5
                          try clear c6
                          try clear p6
                          try clear c7
                          try clear c11
                          try clear c11b0
                          try clear c11b1
                          try clear c12
                          try clear c13
                          try clear c16
                          try clear c18
                          try clear c20
                          try clear c20b0
                          try clear c20b1
                          try clear c20b2
                          try clear c21
                          try clear c26
                          try clear c27
                          try clear c27b0
                          try clear c28
                          try clear c28b0
                          try clear c29
                          try clear c29b0
                          try clear c31
                          try clear c31b0
                          try clear c31b1
                          try clear p34
                          try clear q34
                          try clear hx34
                          try clear p35
                          try clear q35
                          try clear hx35
                          try clear c36
                          try clear c42
                          try clear c42b0
                          try clear c44
                          try clear c44b0
                          try clear c45
                          try clear c45b0
                          try clear c46
                          try clear c46b0
                          try clear c46b1
                          try clear c49
                          try clear c50
                          try clear c50b0
                          try clear c51
                          try clear c51b0
                          try clear c54
                          try clear c54b0
                          try clear c56
                          try clear c56b0
                          try clear c57
                          try clear c57b0
                          try clear c58
                          try clear c58b0
                          try clear c58b1
                          try clear c59
                          try clear c61
                          try clear c61b0
                          try clear c61b1
                          try clear c62
                          try clear c64
                          try clear p64
                          try clear c70
                          try clear c76
                          try clear c76b0
                          try clear hcz14_0
                          try clear hcz14_1
                          try clear hcz14_2
                          try clear hcz14_3
                          try clear hcz14_4
                          try clear hcz14_5
                          try clear hcz16_0
                          try clear hcz16_1
                          try clear hcz16_2
                          try clear hcz16_3
                          try clear hcz16_4
                          try clear hcz16_5
                          try clear hcz18_0
                          try clear hcz18_1
                          try clear hcz18_2
                          try clear hcz18_3
                          try clear hcz18_4
                          try clear hcz18_5
                          try clear hcz22_0
                          try clear hcz22_1
                          try clear hcz22_2
                          try clear hcz22_3
                          try clear hcz22_4
                          try clear hcz22_5
                          try clear hcz25_0
                          try clear hcz25_1
                          try clear hcz25_2
                          try clear hcz25_3
                          try clear hcz25_4
                          try clear hcz25_5
                          try clear hcz34_0
                          try clear hcz34_1
                          try clear hcz34_2
                          try clear hcz34_3
                          try clear hcz34_4
                          try clear hcz34_5
                          try clear hcz37_0
                          try clear hcz37_1
                          try clear hcz37_2
                          try clear hcz41_0
                          try clear hcz41_1
                          try clear hcz41_2
                          try clear hcz60_0
                          try clear hcz60_1
                          try clear hcz60_2
                          try clear hcz60_3
                          try clear hcz60_4
                          try clear hcz60_5
                          try clear hcz63_0
                          try clear hcz63_1
                          try clear hcz63_2
                          try clear hcz63_3
                          try clear hcz63_4
                          try clear hcz63_5
                          try clear hcz65_0
                          try clear hcz65_1
                          try clear hcz65_2
                          try clear hcz65_3
                          try clear hcz65_4
                          try clear hcz65_5
                          try clear hcz68_0
                          try clear hcz68_1
                          try clear hcz68_2
                          try clear hcz68_3
                          try clear hcz68_4
                          try clear hcz68_5
                          try clear hcz6_0
                          try clear hcz6_1
                          try clear hcz6_2
                          try clear hcz6_3
                          try clear hcz6_4
                          try clear hcz6_5
                          try clear hcz71_0
                          try clear hcz71_1
                          try clear hcz71_2
                          try clear hcz75_0
                          try clear hcz75_1
                          try clear hcz75_2
                          try clear hfz14_0
                          try clear hfz14_1
                          try clear hfz14_2
                          try clear hfz14_3
                          try clear hfz14_4
                          try clear hfz14_5
                          try clear hfz16_0
                          try clear hfz16_1
                          try clear hfz16_2
                          try clear hfz16_3
                          try clear hfz16_4
                          try clear hfz16_5
                          try clear hfz18_0
                          try clear hfz18_1
                          try clear hfz18_2
                          try clear hfz18_3
                          try clear hfz18_4
                          try clear hfz18_5
                          try clear hfz22_0
                          try clear hfz22_1
                          try clear hfz22_2
                          try clear hfz22_3
                          try clear hfz22_4
                          try clear hfz22_5
                          try clear hfz25_0
                          try clear hfz25_1
                          try clear hfz25_2
                          try clear hfz25_3
                          try clear hfz25_4
                          try clear hfz25_5
                          try clear hfz34_0
                          try clear hfz34_1
                          try clear hfz34_2
                          try clear hfz34_3
                          try clear hfz34_4
                          try clear hfz34_5
                          try clear hfz37_0
                          try clear hfz37_1
                          try clear hfz37_2
                          try clear hfz41_0
                          try clear hfz41_1
                          try clear hfz41_2
                          try clear hfz60_0
                          try clear hfz60_1
                          try clear hfz60_2
                          try clear hfz60_3
                          try clear hfz60_4
                          try clear hfz60_5
                          try clear hfz63_0
                          try clear hfz63_1
                          try clear hfz63_2
                          try clear hfz63_3
                          try clear hfz63_4
                          try clear hfz63_5
                          try clear hfz65_0
                          try clear hfz65_1
                          try clear hfz65_2
                          try clear hfz65_3
                          try clear hfz65_4
                          try clear hfz65_5
                          try clear hfz68_0
                          try clear hfz68_1
                          try clear hfz68_2
                          try clear hfz68_3
                          try clear hfz68_4
                          try clear hfz68_5
                          try clear hfz6_0
                          try clear hfz6_1
                          try clear hfz6_2
                          try clear hfz6_3
                          try clear hfz6_4
                          try clear hfz6_5
                          try clear hfz71_0
                          try clear hfz71_1
                          try clear hfz71_2
                          try clear hfz75_0
                          try clear hfz75_1
                          try clear hfz75_2
                          try clear hx343_0
                          try clear hx343_1
                          try clear hx343_2
                          try clear hx345_0
                          try clear hx347_0
                          try clear hx348_0
                          try clear hx349_0
                          try clear hx350_0
                          try clear hx351_0
                          try clear hx351_1
                          try clear hx351_2
                          try clear hx352_0
                          try clear hx353_0
                          try clear hx354_0
                          try clear p2
                          try clear p3
                          try clear p34
                          try clear p343
                          try clear p345
                          try clear p347
                          try clear p348
                          try clear p349
                          try clear p350
                          try clear p351
                          try clear p352
                          try clear p353
                          try clear p354
                          try clear p6
                          try clear q3
                          try clear q34
                          try clear q343
                          try clear q345
                          try clear q347
                          try clear q348
                          try clear q349
                          try clear q350
                          try clear q351
                          try clear q352
                          try clear q353
                          try clear q354
                          obtain ⟨kq, x103_65, rfl, HA, HJ65, HO_3, HO_5, BK327, BK344, HB⟩ := hcut
                          cases kq with
                          | zero => exact absurd HA.out (by simp [bluebelllaw06_OcodeDown.j3])
                          | succ kj65 =>
                            have H := HA.out
                            clear HA
                            simp only [bluebelllaw06_OcodeDown.j3] at H
                            by_cases c77 : x103_65 = true
                            · subst c77
                              have H1 : (some false) = some r := by rw [if_pos rfl] at H; exact H
                              clear H
                              have H := H1
                              clear H1
                              obtain rfl := Option.some.inj H
                              go_wp2
                              go_ret
                              exact ⟨by first | rfl | (simp [errW_none, errW_some] <;> rfl) | (simp [*, errW_none, errW_some] <;> rfl), by repeat (first | (with_reducible first | exact HB.out | apply below_alloc | apply pw_below_drewN | apply below_drew1 | refine below_set ?_ GE327.out | refine below_set ?_ GE344.out) | exact HB.out)⟩
                            · replace c77 := Bool.eq_false_iff.mpr c77
                              subst c77
                              have H1 : (if 0 ≤ x9_2 then (if x9_2 < (t330.length : Int) then (if (wrap64 (x9_2 + 1)) < (t330.length : Int) then (if 0 ≤ (wrap64 (x9_2 + 1)) then (if (wrap64 (x9_2 + 1)) < (l0_2.length : Int) then (if ((rd_T35 l0_2 (wrap64 (x9_2 + 1))).f0) = 24 then (bluebelllaw06_OcodeDown.l0 kj65 t330 t334 x7_2 (mx (mx x8_2 (rd t330 x9_2)) t346) (wrap64 (x9_2 + 1)) a0_0 l0_1 l0_2 l0_3 a0_4 a0_5) else (if (rd t330 (wrap64 (x9_2 + 1))) = t346 then (bluebelllaw06_OcodeDown.l0 kj65 t330 t334 x7_2 (mx (mx x8_2 (rd t330 x9_2)) t346) (wrap64 (x9_2 + 1)) a0_0 l0_1 l0_2 l0_3 a0_4 a0_5) else (some false))) else (none)) else (none)) else (bluebelllaw06_OcodeDown.l0 kj65 t330 t334 x7_2 (mx (mx x8_2 (rd t330 x9_2)) t346) (wrap64 (x9_2 + 1)) a0_0 l0_1 l0_2 l0_3 a0_4 a0_5)) else (none)) else (none)) = some r := by rw [if_neg (show ¬ (false = true) by decide)] at H; exact H
                              clear H
                              have H := H1
                              clear H1
                              by_cases c78 : 0 ≤ x9_2
                              · rw [if_pos c78] at H
                                have c78b0 : decide (0 ≤ x9_2) = true := decide_eq_true c78
                                clear c78
                                by_cases c79 : x9_2 < (t330.length : Int)
                                · rw [if_pos c79] at H
                                  have c79b0 : decide (x9_2 < (t330.length : Int)) = true := decide_eq_true c79
                                  clear c79
                                  obtain ⟨ji80, hji80⟩ : ∃ j_ : Int, (mx x8_2 (rd t330 x9_2)) = j_ := ⟨_, rfl⟩
                                  replace H : (if (wrap64 (x9_2 + 1)) < (t330.length : Int) then (if 0 ≤ (wrap64 (x9_2 + 1)) then (if (wrap64 (x9_2 + 1)) < (l0_2.length : Int) then (if ((rd_T35 l0_2 (wrap64 (x9_2 + 1))).f0) = 24 then (bluebelllaw06_OcodeDown.l0 kj65 t330 t334 x7_2 (mx (ji80) t346) (wrap64 (x9_2 + 1)) a0_0 l0_1 l0_2 l0_3 a0_4 a0_5) else (if (rd t330 (wrap64 (x9_2 + 1))) = t346 then (bluebelllaw06_OcodeDown.l0 kj65 t330 t334 x7_2 (mx (ji80) t346) (wrap64 (x9_2 + 1)) a0_0 l0_1 l0_2 l0_3 a0_4 a0_5) else (some false))) else (none)) else (none)) else (bluebelllaw06_OcodeDown.l0 kj65 t330 t334 x7_2 (mx (ji80) t346) (wrap64 (x9_2 + 1)) a0_0 l0_1 l0_2 l0_3 a0_4 a0_5)) = some r := by first | (rw [hji80] at H; exact H) | (simp only [hji80] at H ⊢; exact H)
                                  have hji80_ : (if x8_2 < (rd t330 x9_2) then (rd t330 x9_2) else x8_2) = ji80 := hji80
                                  obtain ⟨ji81, hji81⟩ : ∃ j_ : Int, (mx (ji80) t346) = j_ := ⟨_, rfl⟩
                                  replace H : (if (wrap64 (x9_2 + 1)) < (t330.length : Int) then (if 0 ≤ (wrap64 (x9_2 + 1)) then (if (wrap64 (x9_2 + 1)) < (l0_2.length : Int) then (if ((rd_T35 l0_2 (wrap64 (x9_2 + 1))).f0) = 24 then (bluebelllaw06_OcodeDown.l0 kj65 t330 t334 x7_2 ji81 (wrap64 (x9_2 + 1)) a0_0 l0_1 l0_2 l0_3 a0_4 a0_5) else (if (rd t330 (wrap64 (x9_2 + 1))) = t346 then (bluebelllaw06_OcodeDown.l0 kj65 t330 t334 x7_2 ji81 (wrap64 (x9_2 + 1)) a0_0 l0_1 l0_2 l0_3 a0_4 a0_5) else (some false))) else (none)) else (none)) else (bluebelllaw06_OcodeDown.l0 kj65 t330 t334 x7_2 ji81 (wrap64 (x9_2 + 1)) a0_0 l0_1 l0_2 l0_3 a0_4 a0_5)) = some r := by first | (rw [hji81] at H; exact H) | (simp only [hji81] at H ⊢; exact H)
                                  have hji81_ : (if (ji80) < t346 then t346 else (ji80)) = ji81 := hji81
                                  by_cases c82 : (wrap64 (x9_2 + 1)) < (t330.length : Int)
                                  · rw [if_pos c82] at H
                                    have c82b0 : decide ((wrap64 (x9_2 + 1)) < (t330.length : Int)) = true := decide_eq_true c82
                                    clear c82
                                    obtain ⟨ji83, hji83⟩ : ∃ j_ : Int, (wrap64 (x9_2 + 1)) = j_ := ⟨_, rfl⟩
                                    replace H : (if 0 ≤ (ji83) then (if (ji83) < (l0_2.length : Int) then (if ((rd_T35 l0_2 (ji83)).f0) = 24 then (bluebelllaw06_OcodeDown.l0 kj65 t330 t334 x7_2 ji81 ji83 a0_0 l0_1 l0_2 l0_3 a0_4 a0_5) else (if (rd t330 (ji83)) = t346 then (bluebelllaw06_OcodeDown.l0 kj65 t330 t334 x7_2 ji81 ji83 a0_0 l0_1 l0_2 l0_3 a0_4 a0_5) else (some false))) else (none)) else (none)) = some r := by first | (rw [hji83] at H; exact H) | (simp only [hji83] at H ⊢; exact H)
                                    (try rw [hji83] at c82b0)
                                    have hji83w : (IntKind.i64.wrap (x9_2 + 1)) = ji83 := (i64_w _).trans hji83
                                    by_cases c84 : 0 ≤ (ji83)
                                    · rw [if_pos c84] at H
                                      have c84b0 : decide (0 ≤ (ji83)) = true := decide_eq_true c84
                                      clear c84
                                      by_cases c85 : (ji83) < (l0_2.length : Int)
                                      · rw [if_pos c85] at H
                                        have c85b0 : decide ((ji83) < (l0_2.length : Int)) = true := decide_eq_true c85
                                        clear c85
                                        by_cases c86 : ((rd_T35 l0_2 (ji83)).f0) = 24
                                        · rw [if_pos c86] at H
                                          have c86b0 : (((rd_T35 l0_2 (ji83)).f0) == 24) = true := beq_iff_eq.mpr c86
                                          have c86b1 : (((rd_T35 l0_2 (ji83)).f0) != 24) = false := bne_eq_false_iff_eq.mpr c86
                                          clear c86
                                          have H' := Aside0.mk H
                                          clear H
                                          have p355 : 0 ≤ (x9_2 : Int) := of_decide_eq_true (by first | (with_reducible assumption) | assumption)
                                          have q355 : x9_2 < (t330.length : Int) := of_decide_eq_true (by first | (with_reducible assumption) | assumption)
                                          obtain ⟨ad355, e355, hx355_0⟩ := Kd.at_int (Kd.R_reads' HO_3.out).2.2 x9_2 p355 q355
                                          obtain rfl : ad345 = ad355 := (by injection e355)
                                          replace p355 := eq_true p355
                                          replace q355 := eq_true q355
                                          have hnb87 := NB327_344.out
                                          have hnc87 := NB344_327.out
                                          have hcz88_0 : wc.cell? ⟨gb327, 0, none⟩ = some (.string a0_0) := (blk_cell BK327.out 0).trans rfl
                                          have hcz88_1 : wc.cell? ⟨gb327, 1, none⟩ = some (.slice A0_1 l0_1.length c0_1) := (blk_cell BK327.out 1).trans rfl
                                          have hcz88_2 : wc.cell? ⟨gb327, 2, none⟩ = some (.slice (some ad343) l0_2.length c0_2) := (blk_cell BK327.out 2).trans rfl
                                          have hcz88_3 : wc.cell? ⟨gb327, 3, none⟩ = some (.slice A0_3 l0_3.length c0_3) := (blk_cell BK327.out 3).trans rfl
                                          have hcz88_4 : wc.cell? ⟨gb327, 4, none⟩ = some (.int .i64 a0_4) := (blk_cell BK327.out 4).trans rfl
                                          have hcz88_5 : wc.cell? ⟨gb327, 5, none⟩ = some (.int .i64 a0_5) := (blk_cell BK327.out 5).trans rfl
                                          have hfz88_0 := blk_frozen BK327.out 0
                                          have hfz88_1 := blk_frozen BK327.out 1
                                          have hfz88_2 := blk_frozen BK327.out 2
                                          have hfz88_3 := blk_frozen BK327.out 3
                                          have hfz88_4 := blk_frozen BK327.out 4
                                          have hfz88_5 := blk_frozen BK327.out 5
                                          have p356 : 0 ≤ ((ji83) : Int) := of_decide_eq_true (by first | (with_reducible assumption) | assumption)
                                          have q356 : (ji83) < (l0_2.length : Int) := of_decide_eq_true (by first | (with_reducible assumption) | assumption)
                                          obtain ⟨ad356, e356, hx356_0, hx356_1, hx356_2⟩ := at_T35 HR0_2.out (ji83) p356 q356
                                          obtain rfl : ad343 = ad356 := (by injection e356)
                                          replace hx356_0 := (HB.out.cell (World.block_lt_of_cell? w _ hx356_0)).trans hx356_0
                                          replace hx356_1 := (HB.out.cell (World.block_lt_of_cell? w _ hx356_1)).trans hx356_1
                                          replace hx356_2 := (HB.out.cell (World.block_lt_of_cell? w _ hx356_2)).trans hx356_2
                                          replace p356 := eq_true p356
                                          replace q356 := eq_true q356
                                          go_wp2
                                          go_roundg kj65
                                          case measure => have := HJ11.out; have := HK2.out; have := HJ65.out; omega
                                          case rel => exact ⟨(x7_2), (ji81), (ji83), (by first | rfl | (simp; done) | (simp [*]; done)), (by first | rfl | (simp; done) | (simp only [← hji81] <;> (first | rfl | simp)) | (simp [*]; done)), (by first | rfl | (simp; done) | (simp only [← hji83] <;> (first | rfl | simp)) | (simp [*]; done)), H', ⟨by have := HJ11.out; have := HK2.out; have := HJ65.out; omega⟩, ⟨by (with_reducible repeat (first | apply Kd.R_alloc | apply Kd.R_drewN | apply Kd.R_drew)); exact HO_3.out⟩, ⟨by (with_reducible repeat (first | apply Kd.R_alloc | apply Kd.R_drewN | apply Kd.R_drew)); exact HO_5.out⟩, ⟨by (with_reducible repeat (first | refine blk_drewN ?_ _ | refine blk_drew ?_ | refine blk_alloc ?_ _)); exact BK327.out⟩, ⟨by repeat (first | (with_reducible first | exact HB.out | apply below_alloc | apply pw_below_drewN | apply below_drew1 | refine below_set ?_ GE327.out | refine below_set ?_ GE344.out) | exact HB.out)⟩⟩
                                        · rw [if_neg c86] at H
                                          have c86b0 : (((rd_T35 l0_2 (ji83)).f0) == 24) = false := beq_eq_false_iff_ne.mpr c86
                                          have c86b1 : (((rd_T35 l0_2 (ji83)).f0) != 24) = true := bne_iff_ne.mpr c86
                                          by_cases c89 : (rd t330 (ji83)) = t346
                                          · rw [if_pos c89] at H
                                            have c89b0 : ((rd t330 (ji83)) == t346) = true := beq_iff_eq.mpr c89
                                            have c89b1 : ((rd t330 (ji83)) != t346) = false := bne_eq_false_iff_eq.mpr c89
                                            clear c89
                                            have H' := Aside0.mk H
                                            clear H
                                            have p355 : 0 ≤ (x9_2 : Int) := of_decide_eq_true (by first | (with_reducible assumption) | assumption)
                                            have q355 : x9_2 < (t330.length : Int) := of_decide_eq_true (by first | (with_reducible assumption) | assumption)
                                            obtain ⟨ad355, e355, hx355_0⟩ := Kd.at_int (Kd.R_reads' HO_3.out).2.2 x9_2 p355 q355
                                            obtain rfl : ad345 = ad355 := (by injection e355)
                                            replace p355 := eq_true p355
                                            replace q355 := eq_true q355
                                            have hnb90 := NB327_344.out
                                            have hnc90 := NB344_327.out
                                            have hcz91_0 : wc.cell? ⟨gb327, 0, none⟩ = some (.string a0_0) := (blk_cell BK327.out 0).trans rfl
                                            have hcz91_1 : wc.cell? ⟨gb327, 1, none⟩ = some (.slice A0_1 l0_1.length c0_1) := (blk_cell BK327.out 1).trans rfl
                                            have hcz91_2 : wc.cell? ⟨gb327, 2, none⟩ = some (.slice (some ad343) l0_2.length c0_2) := (blk_cell BK327.out 2).trans rfl
                                            have hcz91_3 : wc.cell? ⟨gb327, 3, none⟩ = some (.slice A0_3 l0_3.length c0_3) := (blk_cell BK327.out 3).trans rfl
                                            have hcz91_4 : wc.cell? ⟨gb327, 4, none⟩ = some (.int .i64 a0_4) := (blk_cell BK327.out 4).trans rfl
                                            have hcz91_5 : wc.cell? ⟨gb327, 5, none⟩ = some (.int .i64 a0_5) := (blk_cell BK327.out 5).trans rfl
                                            have hfz91_0 := blk_frozen BK327.out 0
                                            have hfz91_1 := blk_frozen BK327.out 1
                                            have hfz91_2 := blk_frozen BK327.out 2
                                            have hfz91_3 := blk_frozen BK327.out 3
                                            have hfz91_4 := blk_frozen BK327.out 4
                                            have hfz91_5 := blk_frozen BK327.out 5
                                            have p356 : 0 ≤ ((ji83) : Int) := of_decide_eq_true (by first | (with_reducible assumption) | assumption)
                                            have q356 : (ji83) < (l0_2.length : Int) := of_decide_eq_true (by first | (with_reducible assumption) | assumption)
                                            obtain ⟨ad356, e356, hx356_0, hx356_1, hx356_2⟩ := at_T35 HR0_2.out (ji83) p356 q356
                                            obtain rfl : ad343 = ad356 := (by injection e356)
                                            replace hx356_0 := (HB.out.cell (World.block_lt_of_cell? w _ hx356_0)).trans hx356_0
                                            replace hx356_1 := (HB.out.cell (World.block_lt_of_cell? w _ hx356_1)).trans hx356_1
                                            replace hx356_2 := (HB.out.cell (World.block_lt_of_cell? w _ hx356_2)).trans hx356_2
                                            replace p356 := eq_true p356
                                            replace q356 := eq_true q356
                                            have p357 : 0 ≤ ((ji83) : Int) := of_decide_eq_true (by first | (with_reducible assumption) | assumption)
                                            have q357 : (ji83) < (t330.length : Int) := of_decide_eq_true (by first | (with_reducible assumption) | assumption)
                                            obtain ⟨ad357, e357, hx357_0⟩ := Kd.at_int (Kd.R_reads' HO_3.out).2.2 (ji83) p357 q357
                                            obtain rfl : ad345 = ad357 := (by injection e357)
                                            replace p357 := eq_true p357
                                            replace q357 := eq_true q357
                                            go_wp2
                                            go_roundg kj65
                                            case measure => have := HJ11.out; have := HK2.out; have := HJ65.out; omega
                                            case rel => exact ⟨(x7_2), (ji81), (ji83), (by first | rfl | (simp; done) | (simp [*]; done)), (by first | rfl | (simp; done) | (simp only [← hji81] <;> (first | rfl | simp)) | (simp [*]; done)), (by first | rfl | (simp; done) | (simp only [← hji83] <;> (first | rfl | simp)) | (simp [*]; done)), H', ⟨by have := HJ11.out; have := HK2.out; have := HJ65.out; omega⟩, ⟨by (with_reducible repeat (first | apply Kd.R_alloc | apply Kd.R_drewN | apply Kd.R_drew)); exact HO_3.out⟩, ⟨by (with_reducible repeat (first | apply Kd.R_alloc | apply Kd.R_drewN | apply Kd.R_drew)); exact HO_5.out⟩, ⟨by (with_reducible repeat (first | refine blk_drewN ?_ _ | refine blk_drew ?_ | refine blk_alloc ?_ _)); exact BK327.out⟩, ⟨by repeat (first | (with_reducible first | exact HB.out | apply below_alloc | apply pw_below_drewN | apply below_drew1 | refine below_set ?_ GE327.out | refine below_set ?_ GE344.out) | exact HB.out)⟩⟩
                                          · rw [if_neg c89] at H
                                            have c89b0 : ((rd t330 (ji83)) == t346) = false := beq_eq_false_iff_ne.mpr c89
                                            have c89b1 : ((rd t330 (ji83)) != t346) = true := bne_iff_ne.mpr c89
                                            obtain rfl := Option.some.inj H
                                            have p355 : 0 ≤ (x9_2 : Int) := of_decide_eq_true (by first | (with_reducible assumption) | assumption)
                                            have q355 : x9_2 < (t330.length : Int) := of_decide_eq_true (by first | (with_reducible assumption) | assumption)
                                            obtain ⟨ad355, e355, hx355_0⟩ := Kd.at_int (Kd.R_reads' HO_3.out).2.2 x9_2 p355 q355
                                            obtain rfl : ad345 = ad355 := (by injection e355)
                                            replace p355 := eq_true p355
                                            replace q355 := eq_true q355
                                            have hnb92 := NB327_344.out
                                            have hnc92 := NB344_327.out
                                            have hcz93_0 : wc.cell? ⟨gb327, 0, none⟩ = some (.string a0_0) := (blk_cell BK327.out 0).trans rfl
                                            have hcz93_1 : wc.cell? ⟨gb327, 1, none⟩ = some (.slice A0_1 l0_1.length c0_1) := (blk_cell BK327.out 1).trans rfl
                                            have hcz93_2 : wc.cell? ⟨gb327, 2, none⟩ = some (.slice (some ad343) l0_2.length c0_2) := (blk_cell BK327.out 2).trans rfl
                                            have hcz93_3 : wc.cell? ⟨gb327, 3, none⟩ = some (.slice A0_3 l0_3.length c0_3) := (blk_cell BK327.out 3).trans rfl
                                            have hcz93_4 : wc.cell? ⟨gb327, 4, none⟩ = some (.int .i64 a0_4) := (blk_cell BK327.out 4).trans rfl
                                            have hcz93_5 : wc.cell? ⟨gb327, 5, none⟩ = some (.int .i64 a0_5) := (blk_cell BK327.out 5).trans rfl
                                            have hfz93_0 := blk_frozen BK327.out 0
                                            have hfz93_1 := blk_frozen BK327.out 1
                                            have hfz93_2 := blk_frozen BK327.out 2
                                            have hfz93_3 := blk_frozen BK327.out 3
                                            have hfz93_4 := blk_frozen BK327.out 4
                                            have hfz93_5 := blk_frozen BK327.out 5
                                            have p356 : 0 ≤ ((ji83) : Int) := of_decide_eq_true (by first | (with_reducible assumption) | assumption)
                                            have q356 : (ji83) < (l0_2.length : Int) := of_decide_eq_true (by first | (with_reducible assumption) | assumption)
                                            obtain ⟨ad356, e356, hx356_0, hx356_1, hx356_2⟩ := at_T35 HR0_2.out (ji83) p356 q356
                                            obtain rfl : ad343 = ad356 := (by injection e356)
                                            replace hx356_0 := (HB.out.cell (World.block_lt_of_cell? w _ hx356_0)).trans hx356_0
                                            replace hx356_1 := (HB.out.cell (World.block_lt_of_cell? w _ hx356_1)).trans hx356_1
                                            replace hx356_2 := (HB.out.cell (World.block_lt_of_cell? w _ hx356_2)).trans hx356_2
                                            replace p356 := eq_true p356
                                            replace q356 := eq_true q356
                                            have p357 : 0 ≤ ((ji83) : Int) := of_decide_eq_true (by first | (with_reducible assumption) | assumption)
                                            have q357 : (ji83) < (t330.length : Int) := of_decide_eq_true (by first | (with_reducible assumption) | assumption)
                                            obtain ⟨ad357, e357, hx357_0⟩ := Kd.at_int (Kd.R_reads' HO_3.out).2.2 (ji83) p357 q357
                                            obtain rfl : ad345 = ad357 := (by injection e357)
                                            replace p357 := eq_true p357
                                            replace q357 := eq_true q357
                                            go_wp2
                                            go_ret
                                            exact ⟨by first | rfl | (simp [errW_none, errW_some] <;> rfl) | (simp only [← hji80, ← hji81, ← hji83]; first | rfl | (simp [errW_none, errW_some] <;> rfl)) | (simp [*, errW_none, errW_some] <;> rfl), by repeat (first | (with_reducible first | exact HB.out | apply below_alloc | apply pw_below_drewN | apply below_drew1 | refine below_set ?_ GE327.out | refine below_set ?_ GE344.out) | exact HB.out)⟩
                                      · rw [if_neg c85] at H
                                        exact absurd H (by simp)
                                    · rw [if_neg c84] at H
                                      exact absurd H (by simp)
                                  · rw [if_neg c82] at H
                                    have c82b0 : decide ((wrap64 (x9_2 + 1)) < (t330.length : Int)) = false := decide_eq_false c82
                                    clear c82
                                    have H' := Aside0.mk H
                                    clear H
                                    have p355 : 0 ≤ (x9_2 : Int) := of_decide_eq_true (by first | (with_reducible assumption) | assumption)
                                    have q355 : x9_2 < (t330.length : Int) := of_decide_eq_true (by first | (with_reducible assumption) | assumption)
                                    obtain ⟨ad355, e355, hx355_0⟩ := Kd.at_int (Kd.R_reads' HO_3.out).2.2 x9_2 p355 q355
                                    obtain rfl : ad345 = ad355 := (by injection e355)
                                    replace p355 := eq_true p355
                                    replace q355 := eq_true q355
                                    go_wp2
                                    go_roundg kj65
                                    case measure => have := HJ11.out; have := HK2.out; have := HJ65.out; omega
                                    case rel => exact ⟨(x7_2), (ji81), (wrap64 (x9_2 + 1)), (by first | rfl | (simp; done) | (simp [*]; done)), (by first | rfl | (simp; done) | (simp only [← hji81] <;> (first | rfl | simp)) | (simp [*]; done)), (by first | rfl | (simp; done) | (simp [*]; done)), H', ⟨by have := HJ11.out; have := HK2.out; have := HJ65.out; omega⟩, ⟨by (with_reducible repeat (first | apply Kd.R_alloc | apply Kd.R_drewN | apply Kd.R_drew)); exact HO_3.out⟩, ⟨by (with_reducible repeat (first | apply Kd.R_alloc | apply Kd.R_drewN | apply Kd.R_drew)); exact HO_5.out⟩, ⟨by (with_reducible repeat (first | refine blk_drewN ?_ _ | refine blk_drew ?_ | refine blk_alloc ?_ _)); exact BK327.out⟩, ⟨by repeat (first | (with_reducible first | exact HB.out | apply below_alloc | apply pw_below_drewN | apply below_drew1 | refine below_set ?_ GE327.out | refine below_set ?_ GE344.out) | exact HB.out)⟩⟩
                                · rw [if_neg c79] at H
                                  exact absurd H (by simp)
                              · rw [if_neg c78] at H
                                exact absurd H (by simp)
                    · rw [if_neg c29] at H
                      exact absurd H (by simp)
                  · rw [if_neg c28] at H
                    exact absurd H (by simp)
                · rw [if_neg c27] at H
                  have c27b0 : decide (x9_2 < (t330.length : Int)) = false := decide_eq_false c27
                  clear c27
                  by_cases c94 : x7_2 = 0
                  · rw [if_pos c94] at H
                    have c94b0 : (x7_2 == 0) = true := beq_iff_eq.mpr c94
                    have c94b1 : (x7_2 != 0) = false := bne_eq_false_iff_eq.mpr c94
                    clear c94
                    replace H := Option.bind_eq_some_iff.mp H
                    obtain ⟨t340, A950, H⟩ := H
                    replace H : (some t340) = some r := H
                    have A95 := Aside0.mk A950
                    clear A950
                    obtain rfl := Option.some.inj H
                    obtain ⟨Ao96, co96, eo96⟩ := Kd.R_slice HO_3.out
                    subst eo96
                    go_wp2_with (first | (go_at_call 13; (with_reducible refine (bluebelllaw06_awake.calls k2  t340 _ A95.out).mono ?_); rintro e w97 ⟨rfl, hb⟩; have n0_ := Aside0.mk (Kd.R_below (by (with_reducible repeat (first | apply Kd.R_alloc | apply Kd.R_drewN | apply Kd.R_drew)); exact HO_3.out) hb); have n1_ := Aside0.mk (Kd.R_below (by (with_reducible repeat (first | apply Kd.R_alloc | apply Kd.R_drewN | apply Kd.R_drew)); exact HO_5.out) hb); have n2_ := Aside0.mk (blk_below (g := gb327) (o := .cells #[.string a0_0, .slice A0_1 l0_1.length c0_1, .slice A0_2 l0_2.length c0_2, .slice A0_3 l0_3.length c0_3, .int .i64 a0_4, .int .i64 a0_5] 26 (0, 0)) (by (with_reducible repeat (first | refine blk_drewN ?_ _ | refine blk_drew ?_ | refine blk_alloc ?_ _)); exact BK327.out) hb); have n3_ := Aside0.mk (below_step (by repeat (first | (with_reducible first | exact HB.out | apply below_alloc | apply pw_below_drewN | apply below_drew1 | refine below_set ?_ GE327.out) | exact HB.out)) hb); clear HO_3; clear HO_5; clear BK327; clear HB; have HO_3 := n0_; have HO_5 := n1_; have BK327 := n2_; have HB := n3_; clear n0_ n1_ n2_ n3_; (try clear hb); (try clear hb2); (try clear hk); (try clear hi)))
                    go_ret
                    exact ⟨by first | rfl | (simp [errW_none, errW_some] <;> rfl) | (simp [*, errW_none, errW_some] <;> rfl), by repeat (first | (with_reducible first | exact HB.out | apply below_alloc | apply pw_below_drewN | apply below_drew1 | refine below_set ?_ GE327.out) | exact HB.out)⟩
                  · rw [if_neg c94] at H
                    have c94b0 : (x7_2 == 0) = false := beq_eq_false_iff_ne.mpr c94
                    have c94b1 : (x7_2 != 0) = true := bne_iff_ne.mpr c94
                    obtain ⟨ji98, hji98⟩ : ∃ j_ : Int, (wrap64 (x7_2 - 1)) = j_ := ⟨_, rfl⟩
                    replace H : (if 0 ≤ (ji98) then (if (ji98) < (t334.length : Int) then (if (rd t334 (ji98)) = x8_2 then ((bluebelllaw06_awake.f k2).bind fun t342 => (some t342)) else (some false)) else (none)) else (none)) = some r := by first | (rw [hji98] at H; exact H) | (simp only [hji98] at H ⊢; exact H)
                    have hji98w : (IntKind.i64.wrap (x7_2 - 1)) = ji98 := (i64_w _).trans hji98
                    by_cases c99 : 0 ≤ (ji98)
                    · rw [if_pos c99] at H
                      have c99b0 : decide (0 ≤ (ji98)) = true := decide_eq_true c99
                      clear c99
                      by_cases c100 : (ji98) < (t334.length : Int)
                      · rw [if_pos c100] at H
                        have c100b0 : decide ((ji98) < (t334.length : Int)) = true := decide_eq_true c100
                        clear c100
                        by_cases c101 : (rd t334 (ji98)) = x8_2
                        · rw [if_pos c101] at H
                          have c101b0 : ((rd t334 (ji98)) == x8_2) = true := beq_iff_eq.mpr c101
                          have c101b1 : ((rd t334 (ji98)) != x8_2) = false := bne_eq_false_iff_eq.mpr c101
                          clear c101
                          replace H := Option.bind_eq_some_iff.mp H
                          obtain ⟨t342, A1020, H⟩ := H
                          replace H : (some t342) = some r := H
                          have A102 := Aside0.mk A1020
                          clear A1020
                          obtain rfl := Option.some.inj H
                          obtain ⟨Ao103, co103, eo103⟩ := Kd.R_slice HO_3.out
                          subst eo103
                          obtain ⟨Ao104, co104, eo104⟩ := Kd.R_slice HO_5.out
                          subst eo104
                          have p341 : 0 ≤ ((ji98) : Int) := of_decide_eq_true (by first | (with_reducible assumption) | assumption)
                          have q341 : (ji98) < (t334.length : Int) := of_decide_eq_true (by first | (with_reducible assumption) | assumption)
                          obtain ⟨ad341, e341, hx341_0⟩ := Kd.at_int (Kd.R_reads' HO_5.out).2.2 (ji98) p341 q341
                          cases e341
                          replace p341 := eq_true p341
                          replace q341 := eq_true q341
                          go_wp2_with (first | (go_at_call 13; (with_reducible refine (bluebelllaw06_awake.calls k2  t342 _ A102.out).mono ?_); rintro e w105 ⟨rfl, hb⟩; have n0_ := Aside0.mk (Kd.R_below (by (with_reducible repeat (first | apply Kd.R_alloc | apply Kd.R_drewN | apply Kd.R_drew)); exact HO_3.out) hb); have n1_ := Aside0.mk (Kd.R_below (by (with_reducible repeat (first | apply Kd.R_alloc | apply Kd.R_drewN | apply Kd.R_drew)); exact HO_5.out) hb); have n2_ := Aside0.mk (blk_below (g := gb327) (o := .cells #[.string a0_0, .slice A0_1 l0_1.length c0_1, .slice A0_2 l0_2.length c0_2, .slice A0_3 l0_3.length c0_3, .int .i64 a0_4, .int .i64 a0_5] 26 (0, 0)) (by (with_reducible repeat (first | refine blk_drewN ?_ _ | refine blk_drew ?_ | refine blk_alloc ?_ _)); exact BK327.out) hb); have n3_ := Aside0.mk (below_step (by repeat (first | (with_reducible first | exact HB.out | apply below_alloc | apply pw_below_drewN | apply below_drew1 | refine below_set ?_ GE327.out) | exact HB.out)) hb); clear HO_3; clear HO_5; clear BK327; clear HB; have HO_3 := n0_; have HO_5 := n1_; have BK327 := n2_; have HB := n3_; clear n0_ n1_ n2_ n3_; (try clear hb); (try clear hb2); (try clear hk); (try clear hi)))
                          go_ret
                          exact ⟨by first | rfl | (simp [errW_none, errW_some] <;> rfl) | (simp only [← hji98]; first | rfl | (simp [errW_none, errW_some] <;> rfl)) | (simp [*, errW_none, errW_some] <;> rfl), by repeat (first | (with_reducible first | exact HB.out | apply below_alloc | apply pw_below_drewN | apply below_drew1 | refine below_set ?_ GE327.out) | exact HB.out)⟩
                        · rw [if_neg c101] at H
                          have c101b0 : ((rd t334 (ji98)) == x8_2) = false := beq_eq_false_iff_ne.mpr c101
                          have c101b1 : ((rd t334 (ji98)) != x8_2) = true := bne_iff_ne.mpr c101
                          obtain rfl := Option.some.inj H
                          obtain ⟨Ao106, co106, eo106⟩ := Kd.R_slice HO_3.out
                          subst eo106
                          obtain ⟨Ao107, co107, eo107⟩ := Kd.R_slice HO_5.out
                          subst eo107
                          have p341 : 0 ≤ ((ji98) : Int) := of_decide_eq_true (by first | (with_reducible assumption) | assumption)
                          have q341 : (ji98) < (t334.length : Int) := of_decide_eq_true (by first | (with_reducible assumption) | assumption)
                          obtain ⟨ad341, e341, hx341_0⟩ := Kd.at_int (Kd.R_reads' HO_5.out).2.2 (ji98) p341 q341
                          cases e341
                          replace p341 := eq_true p341
                          replace q341 := eq_true q341
                          go_wp2
                          go_ret
                          exact ⟨by first | rfl | (simp [errW_none, errW_some] <;> rfl) | (simp only [← hji98]; first | rfl | (simp [errW_none, errW_some] <;> rfl)) | (simp [*, errW_none, errW_some] <;> rfl), by repeat (first | (with_reducible first | exact HB.out | apply below_alloc | apply pw_below_drewN | apply below_drew1 | refine below_set ?_ GE327.out) | exact HB.out)⟩
                      · rw [if_neg c100] at H
                        exact absurd H (by simp)
                    · rw [if_neg c99] at H
                      exact absurd H (by simp)
    · rw [if_neg c11] at H
      have c11b0 : (t333 == 0) = false := beq_eq_false_iff_ne.mpr c11
      have c11b1 : (t333 != 0) = true := bne_iff_ne.mpr c11
      by_cases c108 : t333 = t337
      · rw [if_pos c108] at H
        have c108b0 : (t333 == t337) = true := beq_iff_eq.mpr c108
        have c108b1 : (t333 != t337) = false := bne_eq_false_iff_eq.mpr c108
        clear c108
        replace H := Option.bind_eq_some_iff.mp H
        obtain ⟨t338, A1090, H⟩ := H
        replace H : (if t333 = t338 then ((bluebelllaw06_awake.f k).bind fun t339 => (some t339)) else (some false)) = some r := H
        have A109 := Aside0.mk A1090
        clear A1090
        by_cases c110 : t333 = t338
        · rw [if_pos c110] at H
          have c110b0 : (t333 == t338) = true := beq_iff_eq.mpr c110
          have c110b1 : (t333 != t338) = false := bne_eq_false_iff_eq.mpr c110
          clear c110
          replace H := Option.bind_eq_some_iff.mp H
          obtain ⟨t339, A1110, H⟩ := H
          replace H : (some t339) = some r := H
          have A111 := Aside0.mk A1110
          clear A1110
          obtain rfl := Option.some.inj H
          go_enter Try.func5, Try.ntmps5
          go_wp2_with (first | ((with_reducible refine gate_dst (N := 1) rfl ?_); (try (refine gate_guard (by rfl) ?_; dsimp only)); refine box_event ?hg (N := 1) ?hd (cs := #[.string a0_0, .slice A0_1 l0_1.length c0_1, .slice A0_2 l0_2.length c0_2, .slice A0_3 l0_3.length c0_3, .int .i64 a0_4, .int .i64 a0_5]) (t := 26) ?hr ?_; (case hd => rfl); (case hg => rfl); (case hr => first | (go_simp; done) | (go_simp; rfl)); intro gb327 hg w112 hbox hb; have n0_ := Aside0.mk (below_step (by repeat (first | (with_reducible first | exact HB.out | apply below_alloc | apply pw_below_drewN | apply below_drew1) | exact HB.out)) hb); have n1_ := Aside0.mk (hbox); have n2_ := Aside0.mk ((by rw [hg]; exact (below_size (by repeat (first | (with_reducible first | exact HB.out | apply below_alloc | apply pw_below_drewN | apply below_drew1) | exact HB.out))) : w.heap.size ≤ gb327)); have n3_ := Aside0.mk ((by rw [hg]; exact (below_size (by repeat (first | (with_reducible first | exact HB.out | apply below_alloc | apply pw_below_drewN | apply below_drew1) | exact HB.out))) : w.heap.size ≤ gb327)); clear HB; have HB := n0_; have BK327 := n1_; have GW327 := n2_; have GE327 := n3_; clear n0_ n1_ n2_ n3_; clear hb hbox hg; have hcz113_0 : w112.cell? ⟨gb327, 0, none⟩ = some (.string a0_0) := (blk_cell BK327.out 0).trans rfl; have hcz113_1 : w112.cell? ⟨gb327, 1, none⟩ = some (.slice A0_1 l0_1.length c0_1) := (blk_cell BK327.out 1).trans rfl; have hcz113_2 : w112.cell? ⟨gb327, 2, none⟩ = some (.slice A0_2 l0_2.length c0_2) := (blk_cell BK327.out 2).trans rfl; have hcz113_3 : w112.cell? ⟨gb327, 3, none⟩ = some (.slice A0_3 l0_3.length c0_3) := (blk_cell BK327.out 3).trans rfl; have hcz113_4 : w112.cell? ⟨gb327, 4, none⟩ = some (.int .i64 a0_4) := (blk_cell BK327.out 4).trans rfl; have hcz113_5 : w112.cell? ⟨gb327, 5, none⟩ = some (.int .i64 a0_5) := (blk_cell BK327.out 5).trans rfl; have hfz113_0 := blk_frozen BK327.out 0; have hfz113_1 := blk_frozen BK327.out 1; have hfz113_2 := blk_frozen BK327.out 2; have hfz113_3 := blk_frozen BK327.out 3; have hfz113_4 := blk_frozen BK327.out 4; have hfz113_5 := blk_frozen BK327.out 5) | ((with_reducible refine gate_callee (f := 12) rfl ?_); refine goesL_ (some 13) rfl rfl Try.func12 (by kernel_rfl) rfl #[.agg #[.string a0_0, .slice A0_1 l0_1.length c0_1, .slice A0_2 l0_2.length c0_2, .slice A0_3 l0_3.length c0_3, .int .i64 a0_4, .int .i64 a0_5]] rfl (by (try simp only [List.map_toArray, List.map_cons, List.map_nil]); first | done | rfl | (simp only [List.length_drop, List.length_take]; rfl)) ?_; (with_reducible refine (bluebelllaw06_heavy.calls k a0_0 _ _ l0_1 _ _ l0_2 _ _ l0_3 a0_4 a0_5 false _ ?side1 ?side2 ?side3 ?side4 ?side5 ?side6 A2.out).mono ?_); (case side1 => repeat (first | exact (Kd.C_below HR0_1.out HB.out) | (with_reducible refine Kd.C_alloc ?_ _) | (with_reducible refine Kd.C_drewN ?_ _) | (with_reducible refine Kd.C_drew ?_))); (case side2 => exact HC0_1.out); (case side3 => repeat (first | exact (Kd.C_below HR0_2.out HB.out) | (with_reducible refine Kd.C_alloc ?_ _) | (with_reducible refine Kd.C_drewN ?_ _) | (with_reducible refine Kd.C_drew ?_))); (case side4 => exact HC0_2.out); (case side5 => repeat (first | exact (Kd.C_below HR0_3.out HB.out) | (with_reducible refine Kd.C_alloc ?_ _) | (with_reducible refine Kd.C_drewN ?_ _) | (with_reducible refine Kd.C_drew ?_))); (case side6 => exact HC0_3.out); rintro e w114 ⟨rfl, hb⟩; refine ⟨_, rfl, ?_⟩; have n0_ := Aside0.mk (blk_below (g := gb327) (o := .cells #[.string a0_0, .slice A0_1 l0_1.length c0_1, .slice A0_2 l0_2.length c0_2, .slice A0_3 l0_3.length c0_3, .int .i64 a0_4, .int .i64 a0_5] 26 (0, 0)) (by (with_reducible repeat (first | refine blk_drewN ?_ _ | refine blk_drew ?_ | refine blk_alloc ?_ _)); exact BK327.out) hb); have n1_ := Aside0.mk (below_step (by repeat (first | (with_reducible first | exact HB.out | apply below_alloc | apply pw_below_drewN | apply below_drew1 | refine below_set ?_ GE327.out) | exact HB.out)) hb); clear BK327; clear HB; have BK327 := n0_; have HB := n1_; clear n0_ n1_; (try clear hb); (try clear hb2); (try clear hk); (try clear hi); have hcz115_0 : w114.cell? ⟨gb327, 0, none⟩ = some (.string a0_0) := (blk_cell BK327.out 0).trans rfl; have hcz115_1 : w114.cell? ⟨gb327, 1, none⟩ = some (.slice A0_1 l0_1.length c0_1) := (blk_cell BK327.out 1).trans rfl; have hcz115_2 : w114.cell? ⟨gb327, 2, none⟩ = some (.slice A0_2 l0_2.length c0_2) := (blk_cell BK327.out 2).trans rfl; have hcz115_3 : w114.cell? ⟨gb327, 3, none⟩ = some (.slice A0_3 l0_3.length c0_3) := (blk_cell BK327.out 3).trans rfl; have hcz115_4 : w114.cell? ⟨gb327, 4, none⟩ = some (.int .i64 a0_4) := (blk_cell BK327.out 4).trans rfl; have hcz115_5 : w114.cell? ⟨gb327, 5, none⟩ = some (.int .i64 a0_5) := (blk_cell BK327.out 5).trans rfl; have hfz115_0 := blk_frozen BK327.out 0; have hfz115_1 := blk_frozen BK327.out 1; have hfz115_2 := blk_frozen BK327.out 2; have hfz115_3 := blk_frozen BK327.out 3; have hfz115_4 := blk_frozen BK327.out 4; have hfz115_5 := blk_frozen BK327.out 5) | ((with_reducible refine gate_callee (f := 16) rfl ?_); refine goesL_ (some 17) rfl rfl Try.func16 (by kernel_rfl) rfl #[.agg #[.string a0_0, .slice A0_1 l0_1.length c0_1, .slice A0_2 l0_2.length c0_2, .slice A0_3 l0_3.length c0_3, .int .i64 a0_4, .int .i64 a0_5]] rfl (by (try simp only [List.map_toArray, List.map_cons, List.map_nil]); first | done | rfl | (simp only [List.length_drop, List.length_take]; rfl)) ?_; (with_reducible refine (ocode_Depths.calls a0_0 _ _ l0_1 _ _ l0_2 _ _ l0_3 a0_4 a0_5 t330 t333 _ ?side1 ?side2 ?side3 ?side4 ?side5 ?side6 A9.out).mono ?_); (case side1 => repeat (first | exact (Kd.C_below HR0_1.out HB.out) | (with_reducible refine Kd.C_alloc ?_ _) | (with_reducible refine Kd.C_drewN ?_ _) | (with_reducible refine Kd.C_drew ?_))); (case side2 => exact HC0_1.out); (case side3 => repeat (first | exact (Kd.C_below HR0_2.out HB.out) | (with_reducible refine Kd.C_alloc ?_ _) | (with_reducible refine Kd.C_drewN ?_ _) | (with_reducible refine Kd.C_drew ?_))); (case side4 => exact HC0_2.out); (case side5 => repeat (first | exact (Kd.C_below HR0_3.out HB.out) | (with_reducible refine Kd.C_alloc ?_ _) | (with_reducible refine Kd.C_drewN ?_ _) | (with_reducible refine Kd.C_drew ?_))); (case side6 => exact HC0_3.out); rintro e w116 ⟨v331, rfl, ho0, hb⟩; refine ⟨_, rfl, ?_⟩; have n0_ := Aside0.mk (Kd.R_lower ho0 (below_size (by repeat (first | (with_reducible first | exact HB.out | apply below_alloc | apply pw_below_drewN | apply below_drew1 | refine below_set ?_ GE327.out) | exact HB.out)))); have n1_ := Aside0.mk (blk_below (g := gb327) (o := .cells #[.string a0_0, .slice A0_1 l0_1.length c0_1, .slice A0_2 l0_2.length c0_2, .slice A0_3 l0_3.length c0_3, .int .i64 a0_4, .int .i64 a0_5] 26 (0, 0)) (by (with_reducible repeat (first | refine blk_drewN ?_ _ | refine blk_drew ?_ | refine blk_alloc ?_ _)); exact BK327.out) hb); have n2_ := Aside0.mk (below_step (by repeat (first | (with_reducible first | exact HB.out | apply below_alloc | apply pw_below_drewN | apply below_drew1 | refine below_set ?_ GE327.out) | exact HB.out)) hb); clear BK327; clear HB; have HO332 := n0_; have BK327 := n1_; have HB := n2_; clear n0_ n1_ n2_; (try clear hb); (try clear hb2); (try clear hk); (try clear hi); (try clear ho0); have hcz117_0 : w116.cell? ⟨gb327, 0, none⟩ = some (.string a0_0) := (blk_cell BK327.out 0).trans rfl; have hcz117_1 : w116.cell? ⟨gb327, 1, none⟩ = some (.slice A0_1 l0_1.length c0_1) := (blk_cell BK327.out 1).trans rfl; have hcz117_2 : w116.cell? ⟨gb327, 2, none⟩ = some (.slice A0_2 l0_2.length c0_2) := (blk_cell BK327.out 2).trans rfl; have hcz117_3 : w116.cell? ⟨gb327, 3, none⟩ = some (.slice A0_3 l0_3.length c0_3) := (blk_cell BK327.out 3).trans rfl; have hcz117_4 : w116.cell? ⟨gb327, 4, none⟩ = some (.int .i64 a0_4) := (blk_cell BK327.out 4).trans rfl; have hcz117_5 : w116.cell? ⟨gb327, 5, none⟩ = some (.int .i64 a0_5) := (blk_cell BK327.out 5).trans rfl; have hfz117_0 := blk_frozen BK327.out 0; have hfz117_1 := blk_frozen BK327.out 1; have hfz117_2 := blk_frozen BK327.out 2; have hfz117_3 := blk_frozen BK327.out 3; have hfz117_4 := blk_frozen BK327.out 4; have hfz117_5 := blk_frozen BK327.out 5) | ((with_reducible refine gate_callee (f := 18) rfl ?_); refine goesL_ (some 22) rfl rfl Try.func18 (by kernel_rfl) rfl #[.agg #[.string a0_0, .slice A0_1 l0_1.length c0_1, .slice A0_2 l0_2.length c0_2, .slice A0_3 l0_3.length c0_3, .int .i64 a0_4, .int .i64 a0_5]] rfl (by (try simp only [List.map_toArray, List.map_cons, List.map_nil]); first | done | rfl | (simp only [List.length_drop, List.length_take]; rfl)) ?_; (with_reducible refine (ocode_Room.calls a0_0 _ _ l0_1 _ _ l0_2 _ _ l0_3 a0_4 a0_5 t334 t337 _ ?side1 ?side2 ?side3 ?side4 ?side5 ?side6 A10.out).mono ?_); (case side1 => repeat (first | exact (Kd.C_below HR0_1.out HB.out) | (with_reducible refine Kd.C_alloc ?_ _) | (with_reducible refine Kd.C_drewN ?_ _) | (with_reducible refine Kd.C_drew ?_))); (case side2 => exact HC0_1.out); (case side3 => repeat (first | exact (Kd.C_below HR0_2.out HB.out) | (with_reducible refine Kd.C_alloc ?_ _) | (with_reducible refine Kd.C_drewN ?_ _) | (with_reducible refine Kd.C_drew ?_))); (case side4 => exact HC0_2.out); (case side5 => repeat (first | exact (Kd.C_below HR0_3.out HB.out) | (with_reducible refine Kd.C_alloc ?_ _) | (with_reducible refine Kd.C_drewN ?_ _) | (with_reducible refine Kd.C_drew ?_))); (case side6 => exact HC0_3.out); rintro e w118 ⟨v335, rfl, ho0, hb⟩; refine ⟨_, rfl, ?_⟩; have n0_ := Aside0.mk (Kd.R_elder' (by (with_reducible repeat (first | apply Kd.R_alloc | apply Kd.R_drewN | apply Kd.R_drew)); exact HO332.out) (Kd.R_base ho0) hb); have n1_ := Aside0.mk (Kd.R_lower (Kd.R_new' ho0 (Kd.R_lt (by (with_reducible repeat (first | apply Kd.R_alloc | apply Kd.R_drewN | apply Kd.R_drew)); exact HO332.out))) (below_size (by repeat (first | (with_reducible first | exact HB.out | apply below_alloc | apply pw_below_drewN | apply below_drew1 | refine below_set ?_ GE327.out) | exact HB.out)))); have n2_ := Aside0.mk (blk_below (g := gb327) (o := .cells #[.string a0_0, .slice A0_1 l0_1.length c0_1, .slice A0_2 l0_2.length c0_2, .slice A0_3 l0_3.length c0_3, .int .i64 a0_4, .int .i64 a0_5] 26 (0, 0)) (by (with_reducible repeat (first | refine blk_drewN ?_ _ | refine blk_drew ?_ | refine blk_alloc ?_ _)); exact BK327.out) hb); have n3_ := Aside0.mk (below_step (by repeat (first | (with_reducible first | exact HB.out | apply below_alloc | apply pw_below_drewN | apply below_drew1 | refine below_set ?_ GE327.out) | exact HB.out)) hb); clear HO332; clear BK327; clear HB; have HO332 := n0_; have HO336 := n1_; have BK327 := n2_; have HB := n3_; clear n0_ n1_ n2_ n3_; (try clear hb); (try clear hb2); (try clear hk); (try clear hi); (try clear ho0); have hcz119_0 : w118.cell? ⟨gb327, 0, none⟩ = some (.string a0_0) := (blk_cell BK327.out 0).trans rfl; have hcz119_1 : w118.cell? ⟨gb327, 1, none⟩ = some (.slice A0_1 l0_1.length c0_1) := (blk_cell BK327.out 1).trans rfl; have hcz119_2 : w118.cell? ⟨gb327, 2, none⟩ = some (.slice A0_2 l0_2.length c0_2) := (blk_cell BK327.out 2).trans rfl; have hcz119_3 : w118.cell? ⟨gb327, 3, none⟩ = some (.slice A0_3 l0_3.length c0_3) := (blk_cell BK327.out 3).trans rfl; have hcz119_4 : w118.cell? ⟨gb327, 4, none⟩ = some (.int .i64 a0_4) := (blk_cell BK327.out 4).trans rfl; have hcz119_5 : w118.cell? ⟨gb327, 5, none⟩ = some (.int .i64 a0_5) := (blk_cell BK327.out 5).trans rfl; have hfz119_0 := blk_frozen BK327.out 0; have hfz119_1 := blk_frozen BK327.out 1; have hfz119_2 := blk_frozen BK327.out 2; have hfz119_3 := blk_frozen BK327.out 3; have hfz119_4 := blk_frozen BK327.out 4; have hfz119_5 := blk_frozen BK327.out 5) | (go_at_call 20; (with_reducible refine (ocode_Check.calls k a0_0 _ _ l0_1 _ _ l0_2 _ _ l0_3 a0_4 a0_5 t338 _ ?side1 ?side2 ?side3 ?side4 ?side5 ?side6 A109.out).mono ?_); (case side1 => repeat (first | exact (Kd.C_below HR0_1.out HB.out) | (with_reducible refine Kd.C_alloc ?_ _) | (with_reducible refine Kd.C_drewN ?_ _) | (with_reducible refine Kd.C_drew ?_))); (case side2 => exact HC0_1.out); (case side3 => repeat (first | exact (Kd.C_below HR0_2.out HB.out) | (with_reducible refine Kd.C_alloc ?_ _) | (with_reducible refine Kd.C_drewN ?_ _) | (with_reducible refine Kd.C_drew ?_))); (case side4 => exact HC0_2.out); (case side5 => repeat (first | exact (Kd.C_below HR0_3.out HB.out) | (with_reducible refine Kd.C_alloc ?_ _) | (with_reducible refine Kd.C_drewN ?_ _) | (with_reducible refine Kd.C_drew ?_))); (case side6 => exact HC0_3.out); rintro e w120 ⟨rfl, hb⟩; have n0_ := Aside0.mk (Kd.R_below (by (with_reducible repeat (first | apply Kd.R_alloc | apply Kd.R_drewN | apply Kd.R_drew)); exact HO332.out) hb); have n1_ := Aside0.mk (Kd.R_below (by (with_reducible repeat (first | apply Kd.R_alloc | apply Kd.R_drewN | apply Kd.R_drew)); exact HO336.out) hb); have n2_ := Aside0.mk (blk_below (g := gb327) (o := .cells #[.string a0_0, .slice A0_1 l0_1.length c0_1, .slice A0_2 l0_2.length c0_2, .slice A0_3 l0_3.length c0_3, .int .i64 a0_4, .int .i64 a0_5] 26 (0, 0)) (by (with_reducible repeat (first | refine blk_drewN ?_ _ | refine blk_drew ?_ | refine blk_alloc ?_ _)); exact BK327.out) hb); have n3_ := Aside0.mk (below_step (by repeat (first | (with_reducible first | exact HB.out | apply below_alloc | apply pw_below_drewN | apply below_drew1 | refine below_set ?_ GE327.out) | exact HB.out)) hb); clear HO332; clear HO336; clear BK327; clear HB; have HO332 := n0_; have HO336 := n1_; have BK327 := n2_; have HB := n3_; clear n0_ n1_ n2_ n3_; (try clear hb); (try clear hb2); (try clear hk); (try clear hi)) | (go_at_call 13; (with_reducible refine (bluebelllaw06_awake.calls k  t339 _ A111.out).mono ?_); rintro e w121 ⟨rfl, hb⟩; have n0_ := Aside0.mk (Kd.R_below (by (with_reducible repeat (first | apply Kd.R_alloc | apply Kd.R_drewN | apply Kd.R_drew)); exact HO332.out) hb); have n1_ := Aside0.mk (Kd.R_below (by (with_reducible repeat (first | apply Kd.R_alloc | apply Kd.R_drewN | apply Kd.R_drew)); exact HO336.out) hb); have n2_ := Aside0.mk (blk_below (g := gb327) (o := .cells #[.string a0_0, .slice A0_1 l0_1.length c0_1, .slice A0_2 l0_2.length c0_2, .slice A0_3 l0_3.length c0_3, .int .i64 a0_4, .int .i64 a0_5] 26 (0, 0)) (by (with_reducible repeat (first | refine blk_drewN ?_ _ | refine blk_drew ?_ | refine blk_alloc ?_ _)); exact BK327.out) hb); have n3_ := Aside0.mk (below_step (by repeat (first | (with_reducible first | exact HB.out | apply below_alloc | apply pw_below_drewN | apply below_drew1 | refine below_set ?_ GE327.out) | exact HB.out)) hb); clear HO332; clear HO336; clear BK327; clear HB; have HO332 := n0_; have HO336 := n1_; have BK327 := n2_; have HB := n3_; clear n0_ n1_ n2_ n3_; (try clear hb); (try clear hb2); (try clear hk); (try clear hi)))
          go_ret
          exact ⟨by first | rfl | (simp [errW_none, errW_some] <;> rfl) | (simp [*, errW_none, errW_some] <;> rfl), by repeat (first | (with_reducible first | exact HB.out | apply below_alloc | apply pw_below_drewN | apply below_drew1 | refine below_set ?_ GE327.out) | exact HB.out)⟩
        · rw [if_neg c110] at H
          have c110b0 : (t333 == t338) = false := beq_eq_false_iff_ne.mpr c110
          have c110b1 : (t333 != t338) = true := bne_iff_ne.mpr c110
          obtain rfl := Option.some.inj H
          go_enter Try.func5, Try.ntmps5
          go_wp2_with (first | ((with_reducible refine gate_dst (N := 1) rfl ?_); (try (refine gate_guard (by rfl) ?_; dsimp only)); refine box_event ?hg (N := 1) ?hd (cs := #[.string a0_0, .slice A0_1 l0_1.length c0_1, .slice A0_2 l0_2.length c0_2, .slice A0_3 l0_3.length c0_3, .int .i64 a0_4, .int .i64 a0_5]) (t := 26) ?hr ?_; (case hd => rfl); (case hg => rfl); (case hr => first | (go_simp; done) | (go_simp; rfl)); intro gb327 hg w122 hbox hb; have n0_ := Aside0.mk (below_step (by repeat (first | (with_reducible first | exact HB.out | apply below_alloc | apply pw_below_drewN | apply below_drew1) | exact HB.out)) hb); have n1_ := Aside0.mk (hbox); have n2_ := Aside0.mk ((by rw [hg]; exact (below_size (by repeat (first | (with_reducible first | exact HB.out | apply below_alloc | apply pw_below_drewN | apply below_drew1) | exact HB.out))) : w.heap.size ≤ gb327)); have n3_ := Aside0.mk ((by rw [hg]; exact (below_size (by repeat (first | (with_reducible first | exact HB.out | apply below_alloc | apply pw_below_drewN | apply below_drew1) | exact HB.out))) : w.heap.size ≤ gb327)); clear HB; have HB := n0_; have BK327 := n1_; have GW327 := n2_; have GE327 := n3_; clear n0_ n1_ n2_ n3_; clear hb hbox hg; have hcz123_0 : w122.cell? ⟨gb327, 0, none⟩ = some (.string a0_0) := (blk_cell BK327.out 0).trans rfl; have hcz123_1 : w122.cell? ⟨gb327, 1, none⟩ = some (.slice A0_1 l0_1.length c0_1) := (blk_cell BK327.out 1).trans rfl; have hcz123_2 : w122.cell? ⟨gb327, 2, none⟩ = some (.slice A0_2 l0_2.length c0_2) := (blk_cell BK327.out 2).trans rfl; have hcz123_3 : w122.cell? ⟨gb327, 3, none⟩ = some (.slice A0_3 l0_3.length c0_3) := (blk_cell BK327.out 3).trans rfl; have hcz123_4 : w122.cell? ⟨gb327, 4, none⟩ = some (.int .i64 a0_4) := (blk_cell BK327.out 4).trans rfl; have hcz123_5 : w122.cell? ⟨gb327, 5, none⟩ = some (.int .i64 a0_5) := (blk_cell BK327.out 5).trans rfl; have hfz123_0 := blk_frozen BK327.out 0; have hfz123_1 := blk_frozen BK327.out 1; have hfz123_2 := blk_frozen BK327.out 2; have hfz123_3 := blk_frozen BK327.out 3; have hfz123_4 := blk_frozen BK327.out 4; have hfz123_5 := blk_frozen BK327.out 5) | ((with_reducible refine gate_callee (f := 12) rfl ?_); refine goesL_ (some 13) rfl rfl Try.func12 (by kernel_rfl) rfl #[.agg #[.string a0_0, .slice A0_1 l0_1.length c0_1, .slice A0_2 l0_2.length c0_2, .slice A0_3 l0_3.length c0_3, .int .i64 a0_4, .int .i64 a0_5]] rfl (by (try simp only [List.map_toArray, List.map_cons, List.map_nil]); first | done | rfl | (simp only [List.length_drop, List.length_take]; rfl)) ?_; (with_reducible refine (bluebelllaw06_heavy.calls k a0_0 _ _ l0_1 _ _ l0_2 _ _ l0_3 a0_4 a0_5 false _ ?side1 ?side2 ?side3 ?side4 ?side5 ?side6 A2.out).mono ?_); (case side1 => repeat (first | exact (Kd.C_below HR0_1.out HB.out) | (with_reducible refine Kd.C_alloc ?_ _) | (with_reducible refine Kd.C_drewN ?_ _) | (with_reducible refine Kd.C_drew ?_))); (case side2 => exact HC0_1.out); (case side3 => repeat (first | exact (Kd.C_below HR0_2.out HB.out) | (with_reducible refine Kd.C_alloc ?_ _) | (with_reducible refine Kd.C_drewN ?_ _) | (with_reducible refine Kd.C_drew ?_))); (case side4 => exact HC0_2.out); (case side5 => repeat (first | exact (Kd.C_below HR0_3.out HB.out) | (with_reducible refine Kd.C_alloc ?_ _) | (with_reducible refine Kd.C_drewN ?_ _) | (with_reducible refine Kd.C_drew ?_))); (case side6 => exact HC0_3.out); rintro e w124 ⟨rfl, hb⟩; refine ⟨_, rfl, ?_⟩; have n0_ := Aside0.mk (blk_below (g := gb327) (o := .cells #[.string a0_0, .slice A0_1 l0_1.length c0_1, .slice A0_2 l0_2.length c0_2, .slice A0_3 l0_3.length c0_3, .int .i64 a0_4, .int .i64 a0_5] 26 (0, 0)) (by (with_reducible repeat (first | refine blk_drewN ?_ _ | refine blk_drew ?_ | refine blk_alloc ?_ _)); exact BK327.out) hb); have n1_ := Aside0.mk (below_step (by repeat (first | (with_reducible first | exact HB.out | apply below_alloc | apply pw_below_drewN | apply below_drew1 | refine below_set ?_ GE327.out) | exact HB.out)) hb); clear BK327; clear HB; have BK327 := n0_; have HB := n1_; clear n0_ n1_; (try clear hb); (try clear hb2); (try clear hk); (try clear hi); have hcz125_0 : w124.cell? ⟨gb327, 0, none⟩ = some (.string a0_0) := (blk_cell BK327.out 0).trans rfl; have hcz125_1 : w124.cell? ⟨gb327, 1, none⟩ = some (.slice A0_1 l0_1.length c0_1) := (blk_cell BK327.out 1).trans rfl; have hcz125_2 : w124.cell? ⟨gb327, 2, none⟩ = some (.slice A0_2 l0_2.length c0_2) := (blk_cell BK327.out 2).trans rfl; have hcz125_3 : w124.cell? ⟨gb327, 3, none⟩ = some (.slice A0_3 l0_3.length c0_3) := (blk_cell BK327.out 3).trans rfl; have hcz125_4 : w124.cell? ⟨gb327, 4, none⟩ = some (.int .i64 a0_4) := (blk_cell BK327.out 4).trans rfl; have hcz125_5 : w124.cell? ⟨gb327, 5, none⟩ = some (.int .i64 a0_5) := (blk_cell BK327.out 5).trans rfl; have hfz125_0 := blk_frozen BK327.out 0; have hfz125_1 := blk_frozen BK327.out 1; have hfz125_2 := blk_frozen BK327.out 2; have hfz125_3 := blk_frozen BK327.out 3; have hfz125_4 := blk_frozen BK327.out 4; have hfz125_5 := blk_frozen BK327.out 5) | ((with_reducible refine gate_callee (f := 16) rfl ?_); refine goesL_ (some 17) rfl rfl Try.func16 (by kernel_rfl) rfl #[.agg #[.string a0_0, .slice A0_1 l0_1.length c0_1, .slice A0_2 l0_2.length c0_2, .slice A0_3 l0_3.length c0_3, .int .i64 a0_4, .int .i64 a0_5]] rfl (by (try simp only [List.map_toArray, List.map_cons, List.map_nil]); first | done | rfl | (simp only [List.length_drop, List.length_take]; rfl)) ?_; (with_reducible refine (ocode_Depths.calls a0_0 _ _ l0_1 _ _ l0_2 _ _ l0_3 a0_4 a0_5 t330 t333 _ ?side1 ?side2 ?side3 ?side4 ?side5 ?side6 A9.out).mono ?_); (case side1 => repeat (first | exact (Kd.C_below HR0_1.out HB.out) | (with_reducible refine Kd.C_alloc ?_ _) | (with_reducible refine Kd.C_drewN ?_ _) | (with_reducible refine Kd.C_drew ?_))); (case side2 => exact HC0_1.out); (case side3 => repeat (first | exact (Kd.C_below HR0_2.out HB.out) | (with_reducible refine Kd.C_alloc ?_ _) | (with_reducible refine Kd.C_drewN ?_ _) | (with_reducible refine Kd.C_drew ?_))); (case side4 => exact HC0_2.out); (case side5 => repeat (first | exact (Kd.C_below HR0_3.out HB.out) | (with_reducible refine Kd.C_alloc ?_ _) | (with_reducible refine Kd.C_drewN ?_ _) | (with_reducible refine Kd.C_drew ?_))); (case side6 => exact HC0_3.out); rintro e w126 ⟨v331, rfl, ho0, hb⟩; refine ⟨_, rfl, ?_⟩; have n0_ := Aside0.mk (Kd.R_lower ho0 (below_size (by repeat (first | (with_reducible first | exact HB.out | apply below_alloc | apply pw_below_drewN | apply below_drew1 | refine below_set ?_ GE327.out) | exact HB.out)))); have n1_ := Aside0.mk (blk_below (g := gb327) (o := .cells #[.string a0_0, .slice A0_1 l0_1.length c0_1, .slice A0_2 l0_2.length c0_2, .slice A0_3 l0_3.length c0_3, .int .i64 a0_4, .int .i64 a0_5] 26 (0, 0)) (by (with_reducible repeat (first | refine blk_drewN ?_ _ | refine blk_drew ?_ | refine blk_alloc ?_ _)); exact BK327.out) hb); have n2_ := Aside0.mk (below_step (by repeat (first | (with_reducible first | exact HB.out | apply below_alloc | apply pw_below_drewN | apply below_drew1 | refine below_set ?_ GE327.out) | exact HB.out)) hb); clear BK327; clear HB; have HO332 := n0_; have BK327 := n1_; have HB := n2_; clear n0_ n1_ n2_; (try clear hb); (try clear hb2); (try clear hk); (try clear hi); (try clear ho0); have hcz127_0 : w126.cell? ⟨gb327, 0, none⟩ = some (.string a0_0) := (blk_cell BK327.out 0).trans rfl; have hcz127_1 : w126.cell? ⟨gb327, 1, none⟩ = some (.slice A0_1 l0_1.length c0_1) := (blk_cell BK327.out 1).trans rfl; have hcz127_2 : w126.cell? ⟨gb327, 2, none⟩ = some (.slice A0_2 l0_2.length c0_2) := (blk_cell BK327.out 2).trans rfl; have hcz127_3 : w126.cell? ⟨gb327, 3, none⟩ = some (.slice A0_3 l0_3.length c0_3) := (blk_cell BK327.out 3).trans rfl; have hcz127_4 : w126.cell? ⟨gb327, 4, none⟩ = some (.int .i64 a0_4) := (blk_cell BK327.out 4).trans rfl; have hcz127_5 : w126.cell? ⟨gb327, 5, none⟩ = some (.int .i64 a0_5) := (blk_cell BK327.out 5).trans rfl; have hfz127_0 := blk_frozen BK327.out 0; have hfz127_1 := blk_frozen BK327.out 1; have hfz127_2 := blk_frozen BK327.out 2; have hfz127_3 := blk_frozen BK327.out 3; have hfz127_4 := blk_frozen BK327.out 4; have hfz127_5 := blk_frozen BK327.out 5) | ((with_reducible refine gate_callee (f := 18) rfl ?_); refine goesL_ (some 22) rfl rfl Try.func18 (by kernel_rfl) rfl #[.agg #[.string a0_0, .slice A0_1 l0_1.length c0_1, .slice A0_2 l0_2.length c0_2, .slice A0_3 l0_3.length c0_3, .int .i64 a0_4, .int .i64 a0_5]] rfl (by (try simp only [List.map_toArray, List.map_cons, List.map_nil]); first | done | rfl | (simp only [List.length_drop, List.length_take]; rfl)) ?_; (with_reducible refine (ocode_Room.calls a0_0 _ _ l0_1 _ _ l0_2 _ _ l0_3 a0_4 a0_5 t334 t337 _ ?side1 ?side2 ?side3 ?side4 ?side5 ?side6 A10.out).mono ?_); (case side1 => repeat (first | exact (Kd.C_below HR0_1.out HB.out) | (with_reducible refine Kd.C_alloc ?_ _) | (with_reducible refine Kd.C_drewN ?_ _) | (with_reducible refine Kd.C_drew ?_))); (case side2 => exact HC0_1.out); (case side3 => repeat (first | exact (Kd.C_below HR0_2.out HB.out) | (with_reducible refine Kd.C_alloc ?_ _) | (with_reducible refine Kd.C_drewN ?_ _) | (with_reducible refine Kd.C_drew ?_))); (case side4 => exact HC0_2.out); (case side5 => repeat (first | exact (Kd.C_below HR0_3.out HB.out) | (with_reducible refine Kd.C_alloc ?_ _) | (with_reducible refine Kd.C_drewN ?_ _) | (with_reducible refine Kd.C_drew ?_))); (case side6 => exact HC0_3.out); rintro e w128 ⟨v335, rfl, ho0, hb⟩; refine ⟨_, rfl, ?_⟩; have n0_ := Aside0.mk (Kd.R_elder' (by (with_reducible repeat (first | apply Kd.R_alloc | apply Kd.R_drewN | apply Kd.R_drew)); exact HO332.out) (Kd.R_base ho0) hb); have n1_ := Aside0.mk (Kd.R_lower (Kd.R_new' ho0 (Kd.R_lt (by (with_reducible repeat (first | apply Kd.R_alloc | apply Kd.R_drewN | apply Kd.R_drew)); exact HO332.out))) (below_size (by repeat (first | (with_reducible first | exact HB.out | apply below_alloc | apply pw_below_drewN | apply below_drew1 | refine below_set ?_ GE327.out) | exact HB.out)))); have n2_ := Aside0.mk (blk_below (g := gb327) (o := .cells #[.string a0_0, .slice A0_1 l0_1.length c0_1, .slice A0_2 l0_2.length c0_2, .slice A0_3 l0_3.length c0_3, .int .i64 a0_4, .int .i64 a0_5] 26 (0, 0)) (by (with_reducible repeat (first | refine blk_drewN ?_ _ | refine blk_drew ?_ | refine blk_alloc ?_ _)); exact BK327.out) hb); have n3_ := Aside0.mk (below_step (by repeat (first | (with_reducible first | exact HB.out | apply below_alloc | apply pw_below_drewN | apply below_drew1 | refine below_set ?_ GE327.out) | exact HB.out)) hb); clear HO332; clear BK327; clear HB; have HO332 := n0_; have HO336 := n1_; have BK327 := n2_; have HB := n3_; clear n0_ n1_ n2_ n3_; (try clear hb); (try clear hb2); (try clear hk); (try clear hi); (try clear ho0); have hcz129_0 : w128.cell? ⟨gb327, 0, none⟩ = some (.string a0_0) := (blk_cell BK327.out 0).trans rfl; have hcz129_1 : w128.cell? ⟨gb327, 1, none⟩ = some (.slice A0_1 l0_1.length c0_1) := (blk_cell BK327.out 1).trans rfl; have hcz129_2 : w128.cell? ⟨gb327, 2, none⟩ = some (.slice A0_2 l0_2.length c0_2) := (blk_cell BK327.out 2).trans rfl; have hcz129_3 : w128.cell? ⟨gb327, 3, none⟩ = some (.slice A0_3 l0_3.length c0_3) := (blk_cell BK327.out 3).trans rfl; have hcz129_4 : w128.cell? ⟨gb327, 4, none⟩ = some (.int .i64 a0_4) := (blk_cell BK327.out 4).trans rfl; have hcz129_5 : w128.cell? ⟨gb327, 5, none⟩ = some (.int .i64 a0_5) := (blk_cell BK327.out 5).trans rfl; have hfz129_0 := blk_frozen BK327.out 0; have hfz129_1 := blk_frozen BK327.out 1; have hfz129_2 := blk_frozen BK327.out 2; have hfz129_3 := blk_frozen BK327.out 3; have hfz129_4 := blk_frozen BK327.out 4; have hfz129_5 := blk_frozen BK327.out 5) | (go_at_call 20; (with_reducible refine (ocode_Check.calls k a0_0 _ _ l0_1 _ _ l0_2 _ _ l0_3 a0_4 a0_5 t338 _ ?side1 ?side2 ?side3 ?side4 ?side5 ?side6 A109.out).mono ?_); (case side1 => repeat (first | exact (Kd.C_below HR0_1.out HB.out) | (with_reducible refine Kd.C_alloc ?_ _) | (with_reducible refine Kd.C_drewN ?_ _) | (with_reducible refine Kd.C_drew ?_))); (case side2 => exact HC0_1.out); (case side3 => repeat (first | exact (Kd.C_below HR0_2.out HB.out) | (with_reducible refine Kd.C_alloc ?_ _) | (with_reducible refine Kd.C_drewN ?_ _) | (with_reducible refine Kd.C_drew ?_))); (case side4 => exact HC0_2.out); (case side5 => repeat (first | exact (Kd.C_below HR0_3.out HB.out) | (with_reducible refine Kd.C_alloc ?_ _) | (with_reducible refine Kd.C_drewN ?_ _) | (with_reducible refine Kd.C_drew ?_))); (case side6 => exact HC0_3.out); rintro e w130 ⟨rfl, hb⟩; have n0_ := Aside0.mk (Kd.R_below (by (with_reducible repeat (first | apply Kd.R_alloc | apply Kd.R_drewN | apply Kd.R_drew)); exact HO332.out) hb); have n1_ := Aside0.mk (Kd.R_below (by (with_reducible repeat (first | apply Kd.R_alloc | apply Kd.R_drewN | apply Kd.R_drew)); exact HO336.out) hb); have n2_ := Aside0.mk (blk_below (g := gb327) (o := .cells #[.string a0_0, .slice A0_1 l0_1.length c0_1, .slice A0_2 l0_2.length c0_2, .slice A0_3 l0_3.length c0_3, .int .i64 a0_4, .int .i64 a0_5] 26 (0, 0)) (by (with_reducible repeat (first | refine blk_drewN ?_ _ | refine blk_drew ?_ | refine blk_alloc ?_ _)); exact BK327.out) hb); have n3_ := Aside0.mk (below_step (by repeat (first | (with_reducible first | exact HB.out | apply below_alloc | apply pw_below_drewN | apply below_drew1 | refine below_set ?_ GE327.out) | exact HB.out)) hb); clear HO332; clear HO336; clear BK327; clear HB; have HO332 := n0_; have HO336 := n1_; have BK327 := n2_; have HB := n3_; clear n0_ n1_ n2_ n3_; (try clear hb); (try clear hb2); (try clear hk); (try clear hi)))
          go_ret
          exact ⟨by first | rfl | (simp [errW_none, errW_some] <;> rfl) | (simp [*, errW_none, errW_some] <;> rfl), by repeat (first | (with_reducible first | exact HB.out | apply below_alloc | apply pw_below_drewN | apply below_drew1 | refine below_set ?_ GE327.out) | exact HB.out)⟩
      · rw [if_neg c108] at H
        have c108b0 : (t333 == t337) = false := beq_eq_false_iff_ne.mpr c108
        have c108b1 : (t333 != t337) = true := bne_iff_ne.mpr c108
        obtain rfl := Option.some.inj H
        go_enter Try.func5, Try.ntmps5
        go_wp2_with (first | ((with_reducible refine gate_dst (N := 1) rfl ?_); (try (refine gate_guard (by rfl) ?_; dsimp only)); refine box_event ?hg (N := 1) ?hd (cs := #[.string a0_0, .slice A0_1 l0_1.length c0_1, .slice A0_2 l0_2.length c0_2, .slice A0_3 l0_3.length c0_3, .int .i64 a0_4, .int .i64 a0_5]) (t := 26) ?hr ?_; (case hd => rfl); (case hg => rfl); (case hr => first | (go_simp; done) | (go_simp; rfl)); intro gb327 hg w131 hbox hb; have n0_ := Aside0.mk (below_step (by repeat (first | (with_reducible first | exact HB.out | apply below_alloc | apply pw_below_drewN | apply below_drew1) | exact HB.out)) hb); have n1_ := Aside0.mk (hbox); have n2_ := Aside0.mk ((by rw [hg]; exact (below_size (by repeat (first | (with_reducible first | exact HB.out | apply below_alloc | apply pw_below_drewN | apply below_drew1) | exact HB.out))) : w.heap.size ≤ gb327)); have n3_ := Aside0.mk ((by rw [hg]; exact (below_size (by repeat (first | (with_reducible first | exact HB.out | apply below_alloc | apply pw_below_drewN | apply below_drew1) | exact HB.out))) : w.heap.size ≤ gb327)); clear HB; have HB := n0_; have BK327 := n1_; have GW327 := n2_; have GE327 := n3_; clear n0_ n1_ n2_ n3_; clear hb hbox hg; have hcz132_0 : w131.cell? ⟨gb327, 0, none⟩ = some (.string a0_0) := (blk_cell BK327.out 0).trans rfl; have hcz132_1 : w131.cell? ⟨gb327, 1, none⟩ = some (.slice A0_1 l0_1.length c0_1) := (blk_cell BK327.out 1).trans rfl; have hcz132_2 : w131.cell? ⟨gb327, 2, none⟩ = some (.slice A0_2 l0_2.length c0_2) := (blk_cell BK327.out 2).trans rfl; have hcz132_3 : w131.cell? ⟨gb327, 3, none⟩ = some (.slice A0_3 l0_3.length c0_3) := (blk_cell BK327.out 3).trans rfl; have hcz132_4 : w131.cell? ⟨gb327, 4, none⟩ = some (.int .i64 a0_4) := (blk_cell BK327.out 4).trans rfl; have hcz132_5 : w131.cell? ⟨gb327, 5, none⟩ = some (.int .i64 a0_5) := (blk_cell BK327.out 5).trans rfl; have hfz132_0 := blk_frozen BK327.out 0; have hfz132_1 := blk_frozen BK327.out 1; have hfz132_2 := blk_frozen BK327.out 2; have hfz132_3 := blk_frozen BK327.out 3; have hfz132_4 := blk_frozen BK327.out 4; have hfz132_5 := blk_frozen BK327.out 5) | ((with_reducible refine gate_callee (f := 12) rfl ?_); refine goesL_ (some 13) rfl rfl Try.func12 (by kernel_rfl) rfl #[.agg #[.string a0_0, .slice A0_1 l0_1.length c0_1, .slice A0_2 l0_2.length c0_2, .slice A0_3 l0_3.length c0_3, .int .i64 a0_4, .int .i64 a0_5]] rfl (by (try simp only [List.map_toArray, List.map_cons, List.map_nil]); first | done | rfl | (simp only [List.length_drop, List.length_take]; rfl)) ?_; (with_reducible refine (bluebelllaw06_heavy.calls k a0_0 _ _ l0_1 _ _ l0_2 _ _ l0_3 a0_4 a0_5 false _ ?side1 ?side2 ?side3 ?side4 ?side5 ?side6 A2.out).mono ?_); (case side1 => repeat (first | exact (Kd.C_below HR0_1.out HB.out) | (with_reducible refine Kd.C_alloc ?_ _) | (with_reducible refine Kd.C_drewN ?_ _) | (with_reducible refine Kd.C_drew ?_))); (case side2 => exact HC0_1.out); (case side3 => repeat (first | exact (Kd.C_below HR0_2.out HB.out) | (with_reducible refine Kd.C_alloc ?_ _) | (with_reducible refine Kd.C_drewN ?_ _) | (with_reducible refine Kd.C_drew ?_))); (case side4 => exact HC0_2.out); (case side5 => repeat (first | exact (Kd.C_below HR0_3.out HB.out) | (with_reducible refine Kd.C_alloc ?_ _) | (with_reducible refine Kd.C_drewN ?_ _) | (with_reducible refine Kd.C_drew ?_))); (case side6 => exact HC0_3.out); rintro e w133 ⟨rfl, hb⟩; refine ⟨_, rfl, ?_⟩; have n0_ := Aside0.mk (blk_below (g := gb327) (o := .cells #[.string a0_0, .slice A0_1 l0_1.length c0_1, .slice A0_2 l0_2.length c0_2, .slice A0_3 l0_3.length c0_3, .int .i64 a0_4, .int .i64 a0_5] 26 (0, 0)) (by (with_reducible repeat (first | refine blk_drewN ?_ _ | refine blk_drew ?_ | refine blk_alloc ?_ _)); exact BK327.out) hb); have n1_ := Aside0.mk (below_step (by repeat (first | (with_reducible first | exact HB.out | apply below_alloc | apply pw_below_drewN | apply below_drew1 | refine below_set ?_ GE327.out) | exact HB.out)) hb); clear BK327; clear HB; have BK327 := n0_; have HB := n1_; clear n0_ n1_; (try clear hb); (try clear hb2); (try clear hk); (try clear hi); have hcz134_0 : w133.cell? ⟨gb327, 0, none⟩ = some (.string a0_0) := (blk_cell BK327.out 0).trans rfl; have hcz134_1 : w133.cell? ⟨gb327, 1, none⟩ = some (.slice A0_1 l0_1.length c0_1) := (blk_cell BK327.out 1).trans rfl; have hcz134_2 : w133.cell? ⟨gb327, 2, none⟩ = some (.slice A0_2 l0_2.length c0_2) := (blk_cell BK327.out 2).trans rfl; have hcz134_3 : w133.cell? ⟨gb327, 3, none⟩ = some (.slice A0_3 l0_3.length c0_3) := (blk_cell BK327.out 3).trans rfl; have hcz134_4 : w133.cell? ⟨gb327, 4, none⟩ = some (.int .i64 a0_4) := (blk_cell BK327.out 4).trans rfl; have hcz134_5 : w133.cell? ⟨gb327, 5, none⟩ = some (.int .i64 a0_5) := (blk_cell BK327.out 5).trans rfl; have hfz134_0 := blk_frozen BK327.out 0; have hfz134_1 := blk_frozen BK327.out 1; have hfz134_2 := blk_frozen BK327.out 2; have hfz134_3 := blk_frozen BK327.out 3; have hfz134_4 := blk_frozen BK327.out 4; have hfz134_5 := blk_frozen BK327.out 5) | ((with_reducible refine gate_callee (f := 16) rfl ?_); refine goesL_ (some 17) rfl rfl Try.func16 (by kernel_rfl) rfl #[.agg #[.string a0_0, .slice A0_1 l0_1.length c0_1, .slice A0_2 l0_2.length c0_2, .slice A0_3 l0_3.length c0_3, .int .i64 a0_4, .int .i64 a0_5]] rfl (by (try simp only [List.map_toArray, List.map_cons, List.map_nil]); first | done | rfl | (simp only [List.length_drop, List.length_take]; rfl)) ?_; (with_reducible refine (ocode_Depths.calls a0_0 _ _ l0_1 _ _ l0_2 _ _ l0_3 a0_4 a0_5 t330 t333 _ ?side1 ?side2 ?side3 ?side4 ?side5 ?side6 A9.out).mono ?_); (case side1 => repeat (first | exact (Kd.C_below HR0_1.out HB.out) | (with_reducible refine Kd.C_alloc ?_ _) | (with_reducible refine Kd.C_drewN ?_ _) | (with_reducible refine Kd.C_drew ?_))); (case side2 => exact HC0_1.out); (case side3 => repeat (first | exact (Kd.C_below HR0_2.out HB.out) | (with_reducible refine Kd.C_alloc ?_ _) | (with_reducible refine Kd.C_drewN ?_ _) | (with_reducible refine Kd.C_drew ?_))); (case side4 => exact HC0_2.out); (case side5 => repeat (first | exact (Kd.C_below HR0_3.out HB.out) | (with_reducible refine Kd.C_alloc ?_ _) | (with_reducible refine Kd.C_drewN ?_ _) | (with_reducible refine Kd.C_drew ?_))); (case side6 => exact HC0_3.out); rintro e w135 ⟨v331, rfl, ho0, hb⟩; refine ⟨_, rfl, ?_⟩; have n0_ := Aside0.mk (Kd.R_lower ho0 (below_size (by repeat (first | (with_reducible first | exact HB.out | apply below_alloc | apply pw_below_drewN | apply below_drew1 | refine below_set ?_ GE327.out) | exact HB.out)))); have n1_ := Aside0.mk (blk_below (g := gb327) (o := .cells #[.string a0_0, .slice A0_1 l0_1.length c0_1, .slice A0_2 l0_2.length c0_2, .slice A0_3 l0_3.length c0_3, .int .i64 a0_4, .int .i64 a0_5] 26 (0, 0)) (by (with_reducible repeat (first | refine blk_drewN ?_ _ | refine blk_drew ?_ | refine blk_alloc ?_ _)); exact BK327.out) hb); have n2_ := Aside0.mk (below_step (by repeat (first | (with_reducible first | exact HB.out | apply below_alloc | apply pw_below_drewN | apply below_drew1 | refine below_set ?_ GE327.out) | exact HB.out)) hb); clear BK327; clear HB; have HO332 := n0_; have BK327 := n1_; have HB := n2_; clear n0_ n1_ n2_; (try clear hb); (try clear hb2); (try clear hk); (try clear hi); (try clear ho0); have hcz136_0 : w135.cell? ⟨gb327, 0, none⟩ = some (.string a0_0) := (blk_cell BK327.out 0).trans rfl; have hcz136_1 : w135.cell? ⟨gb327, 1, none⟩ = some (.slice A0_1 l0_1.length c0_1) := (blk_cell BK327.out 1).trans rfl; have hcz136_2 : w135.cell? ⟨gb327, 2, none⟩ = some (.slice A0_2 l0_2.length c0_2) := (blk_cell BK327.out 2).trans rfl; have hcz136_3 : w135.cell? ⟨gb327, 3, none⟩ = some (.slice A0_3 l0_3.length c0_3) := (blk_cell BK327.out 3).trans rfl; have hcz136_4 : w135.cell? ⟨gb327, 4, none⟩ = some (.int .i64 a0_4) := (blk_cell BK327.out 4).trans rfl; have hcz136_5 : w135.cell? ⟨gb327, 5, none⟩ = some (.int .i64 a0_5) := (blk_cell BK327.out 5).trans rfl; have hfz136_0 := blk_frozen BK327.out 0; have hfz136_1 := blk_frozen BK327.out 1; have hfz136_2 := blk_frozen BK327.out 2; have hfz136_3 := blk_frozen BK327.out 3; have hfz136_4 := blk_frozen BK327.out 4; have hfz136_5 := blk_frozen BK327.out 5) | ((with_reducible refine gate_callee (f := 18) rfl ?_); refine goesL_ (some 22) rfl rfl Try.func18 (by kernel_rfl) rfl #[.agg #[.string a0_0, .slice A0_1 l0_1.length c0_1, .slice A0_2 l0_2.length c0_2, .slice A0_3 l0_3.length c0_3, .int .i64 a0_4, .int .i64 a0_5]] rfl (by (try simp only [List.map_toArray, List.map_cons, List.map_nil]); first | done | rfl | (simp only [List.length_drop, List.length_take]; rfl)) ?_; (with_reducible refine (ocode_Room.calls a0_0 _ _ l0_1 _ _ l0_2 _ _ l0_3 a0_4 a0_5 t334 t337 _ ?side1 ?side2 ?side3 ?side4 ?side5 ?side6 A10.out).mono ?_); (case side1 => repeat (first | exact (Kd.C_below HR0_1.out HB.out) | (with_reducible refine Kd.C_alloc ?_ _) | (with_reducible refine Kd.C_drewN ?_ _) | (with_reducible refine Kd.C_drew ?_))); (case side2 => exact HC0_1.out); (case side3 => repeat (first | exact (Kd.C_below HR0_2.out HB.out) | (with_reducible refine Kd.C_alloc ?_ _) | (with_reducible refine Kd.C_drewN ?_ _) | (with_reducible refine Kd.C_drew ?_))); (case side4 => exact HC0_2.out); (case side5 => repeat (first | exact (Kd.C_below HR0_3.out HB.out) | (with_reducible refine Kd.C_alloc ?_ _) | (with_reducible refine Kd.C_drewN ?_ _) | (with_reducible refine Kd.C_drew ?_))); (case side6 => exact HC0_3.out); rintro e w137 ⟨v335, rfl, ho0, hb⟩; refine ⟨_, rfl, ?_⟩; have n0_ := Aside0.mk (Kd.R_elder' (by (with_reducible repeat (first | apply Kd.R_alloc | apply Kd.R_drewN | apply Kd.R_drew)); exact HO332.out) (Kd.R_base ho0) hb); have n1_ := Aside0.mk (Kd.R_lower (Kd.R_new' ho0 (Kd.R_lt (by (with_reducible repeat (first | apply Kd.R_alloc | apply Kd.R_drewN | apply Kd.R_drew)); exact HO332.out))) (below_size (by repeat (first | (with_reducible first | exact HB.out | apply below_alloc | apply pw_below_drewN | apply below_drew1 | refine below_set ?_ GE327.out) | exact HB.out)))); have n2_ := Aside0.mk (blk_below (g := gb327) (o := .cells #[.string a0_0, .slice A0_1 l0_1.length c0_1, .slice A0_2 l0_2.length c0_2, .slice A0_3 l0_3.length c0_3, .int .i64 a0_4, .int .i64 a0_5] 26 (0, 0)) (by (with_reducible repeat (first | refine blk_drewN ?_ _ | refine blk_drew ?_ | refine blk_alloc ?_ _)); exact BK327.out) hb); have n3_ := Aside0.mk (below_step (by repeat (first | (with_reducible first | exact HB.out | apply below_alloc | apply pw_below_drewN | apply below_drew1 | refine below_set ?_ GE327.out) | exact HB.out)) hb); clear HO332; clear BK327; clear HB; have HO332 := n0_; have HO336 := n1_; have BK327 := n2_; have HB := n3_; clear n0_ n1_ n2_ n3_; (try clear hb); (try clear hb2); (try clear hk); (try clear hi); (try clear ho0)))
        go_ret
        exact ⟨by first | rfl | (simp [errW_none, errW_some] <;> rfl) | (simp [*, errW_none, errW_some] <;> rfl), by repeat (first | (with_reducible first | exact HB.out | apply below_alloc | apply pw_below_drewN | apply below_drew1 | refine below_set ?_ GE327.out) | exact HB.out)⟩

end Go.Proofs.Ytkmcanknbdaliaa.PO
