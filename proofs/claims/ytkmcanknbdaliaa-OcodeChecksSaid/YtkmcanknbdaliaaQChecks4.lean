/- Lemmas for the law, put together: contracts of the program's functions and what they answer, in plain words (part 4). -/
import Derived.Test.YtkmcanknbdaliaaQChecks1
import Derived.Test.YtkmcanknbdaliaaQChecks2
import Derived.Test.YtkmcanknbdaliaaQChecks3
import Derived.Test.YtkmcanknbdaliaaQChecksShort
namespace Go.Proofs.Ytkmcanknbdaliaa.PO
open Go.RowKit Go.Proofs.YtkmcanknbdaliaaW.PrintWords Go.Proofs.YtkmcanknbdaliaaW.PrintLast Go.Proofs.YtkmcanknbdaliaaW.PrintMore
attribute [local go_sem] max2_int min2_int max_two min_two max_three min_three max_four min_four   -- for this text's walks alone
set_option linter.unusedVariables false
set_option linter.unusedSimpArgs false

/-! ### bluebellref06_deep: function 47 -/
mutual
def bluebellref06_deep.l0 : Nat → Int → Bool → Int → ByteArray → List (S47) → List (S35) → List (S68) → Int → Int → List Int → List Int → Option (Bool)
 | 0, _, _, _, _, _, _, _, _, _, _, _ => none
 | k + 1, x5, x6, x7, x437000, x437001, x437002, x437003, x437004, x437005, x438000, x438001 => if x7 < (x437002.length : Int) then (if 0 ≤ x7 then (if ((rd_T35 x437002 x7).f0) = 24 then (bluebellref06_deep.l0 k (wrap64 (2 + ((rd_T35 x437002 x7).f2))) true (wrap64 (x7 + 1)) x437000 x437001 x437002 x437003 x437004 x437005 x438000 x438001) else ((bluebellref06_After.f k ((rd_T35 x437002 x7).f0) ((rd_T35 x437002 x7).f1) ((rd_T35 x437002 x7).f2) x5).bind fun t440 => (if ((rd_T35 x437002 x7).f0) = 18 then (if 0 ≤ (wrap64 (x7 - 1)) then (if (wrap64 (x7 - 1)) < (x437002.length : Int) then (bluebellref06_deep.j1 k x5 x6 x7 t440 (((rd_T35 x437002 (wrap64 (x7 - 1))).f0) == 19) x437000 x437001 x437002 x437003 x437004 x437005 x438000 x438001 ((rd_T35 x437002 x7).f0) ((rd_T35 x437002 x7).f1) ((rd_T35 x437002 x7).f2)) else (none)) else (none)) else (bluebellref06_deep.j1 k x5 x6 x7 t440 false x437000 x437001 x437002 x437003 x437004 x437005 x438000 x438001 ((rd_T35 x437002 x7).f0) ((rd_T35 x437002 x7).f1) ((rd_T35 x437002 x7).f2))))) else (none)) else (some true)
def bluebellref06_deep.j1 : Nat → Int → Bool → Int → Int → Bool → ByteArray → List (S47) → List (S35) → List (S68) → Int → Int → List Int → List Int → Int → Int → Int → Option (Bool)
 | 0, _, _, _, _, _, _, _, _, _, _, _, _, _, _, _, _ => none
 | k + 1, x5, x6, x7, x9, x10, x437000, x437001, x437002, x437003, x437004, x437005, x438000, x438001, x440000, x440001, x440002 => (bluebellref06_needs.f k x440000 x440001 x440002).bind fun t442 => (if (wrap64 (x5 - t442)) < 2 then (bluebellref06_deep.j2 k x6 x7 x9 true x437000 x437001 x437002 x437003 x437004 x437005 x438000 x438001 x440000 x440001 x440002) else ((bluebellref06_in.f x9 2 4000).bind fun t443 => (if t443 = true then (if x10 = true then (bluebellref06_deep.j2 k x6 x7 x9 false x437000 x437001 x437002 x437003 x437004 x437005 x438000 x438001 x440000 x440001 x440002) else ((bluebellref06_local.f k x440000 x440001 x440002 x5).bind fun t444 => (bluebellref06_deep.j2 k x6 x7 x9 (!t444) x437000 x437001 x437002 x437003 x437004 x437005 x438000 x438001 x440000 x440001 x440002))) else (bluebellref06_deep.j2 k x6 x7 x9 true x437000 x437001 x437002 x437003 x437004 x437005 x438000 x438001 x440000 x440001 x440002))))
def bluebellref06_deep.j2 : Nat → Bool → Int → Int → Bool → ByteArray → List (S47) → List (S35) → List (S68) → Int → Int → List Int → List Int → Int → Int → Int → Option (Bool)
 | 0, _, _, _, _, _, _, _, _, _, _, _, _, _, _, _ => none
 | k + 1, x6, x7, x9, x65, x437000, x437001, x437002, x437003, x437004, x437005, x438000, x438001, x440000, x440001, x440002 => if x65 = true then (some false) else (if x440000 = 28 then (bluebellref06_deep.j3 k x6 x7 x9 x6 x437000 x437001 x437002 x437003 x437004 x437005 x438000 x438001 x440000 x440001 x440002) else (bluebellref06_deep.j3 k x6 x7 x9 false x437000 x437001 x437002 x437003 x437004 x437005 x438000 x438001 x440000 x440001 x440002))
def bluebellref06_deep.j3 : Nat → Bool → Int → Int → Bool → ByteArray → List (S47) → List (S35) → List (S68) → Int → Int → List Int → List Int → Int → Int → Int → Option (Bool)
 | 0, _, _, _, _, _, _, _, _, _, _, _, _, _, _, _ => none
 | k + 1, x6, x7, x9, x71, x437000, x437001, x437002, x437003, x437004, x437005, x438000, x438001, x440000, x440001, x440002 => if x71 = true then (some false) else ((bluebellref06_Label.f k x440000 x440001 x440002).bind fun t445 => (if t445 > 0 then (if 0 ≤ t445 then (if t445 < (x438000.length : Int) then ((bluebellref06_lands.f k x437002 (rd x438000 t445)).bind fun t447 => (bluebellref06_deep.j4 k x6 x7 x9 (t447 != (x440000 == 27)) x437000 x437001 x437002 x437003 x437004 x437005 x438000 x438001 x440000 x440001 x440002)) else (none)) else (none)) else (bluebellref06_deep.j4 k x6 x7 x9 false x437000 x437001 x437002 x437003 x437004 x437005 x438000 x438001 x440000 x440001 x440002)))
def bluebellref06_deep.j4 : Nat → Bool → Int → Int → Bool → ByteArray → List (S47) → List (S35) → List (S68) → Int → Int → List Int → List Int → Int → Int → Int → Option (Bool)
 | 0, _, _, _, _, _, _, _, _, _, _, _, _, _, _, _ => none
 | k + 1, x6, x7, x9, x89, x437000, x437001, x437002, x437003, x437004, x437005, x438000, x438001, x440000, x440001, x440002 => if x89 = true then (some false) else (if x440000 = 19 then (bluebellref06_deep.l0 k x9 x6 (wrap64 (x7 + 1)) x437000 x437001 x437002 x437003 x437004 x437005 x438000 x438001) else ((bluebellref06_GoesOn.f x440000 x440001 x440002).bind fun t448 => (bluebellref06_deep.l0 k x9 t448 (wrap64 (x7 + 1)) x437000 x437001 x437002 x437003 x437004 x437005 x438000 x438001)))
end
def bluebellref06_deep.f (k : Nat) (a0_0 : ByteArray) (l0_1 : List (S47)) (l0_2 : List (S35)) (l0_3 : List (S68)) (a0_4 : Int) (a0_5 : Int) (l1_0 : List Int) (l1_1 : List Int) : Option (Bool) := bluebellref06_deep.l0 k 0 false 0 a0_0 l0_1 l0_2 l0_3 a0_4 a0_5 l1_0 l1_1
theorem bluebellref06_deep.mono_l : ∀ k, (∀ y0 y1 y2 y3 y4 y5 y6 y7 y8 y9 y10, LeO (bluebellref06_deep.l0 k y0 y1 y2 y3 y4 y5 y6 y7 y8 y9 y10) (bluebellref06_deep.l0 (k + 1) y0 y1 y2 y3 y4 y5 y6 y7 y8 y9 y10)) ∧ (∀ y0 y1 y2 y3 y4 y5 y6 y7 y8 y9 y10 y11 y12 y13 y14 y15, LeO (bluebellref06_deep.j1 k y0 y1 y2 y3 y4 y5 y6 y7 y8 y9 y10 y11 y12 y13 y14 y15) (bluebellref06_deep.j1 (k + 1) y0 y1 y2 y3 y4 y5 y6 y7 y8 y9 y10 y11 y12 y13 y14 y15)) ∧ (∀ y0 y1 y2 y3 y4 y5 y6 y7 y8 y9 y10 y11 y12 y13 y14, LeO (bluebellref06_deep.j2 k y0 y1 y2 y3 y4 y5 y6 y7 y8 y9 y10 y11 y12 y13 y14) (bluebellref06_deep.j2 (k + 1) y0 y1 y2 y3 y4 y5 y6 y7 y8 y9 y10 y11 y12 y13 y14)) ∧ (∀ y0 y1 y2 y3 y4 y5 y6 y7 y8 y9 y10 y11 y12 y13 y14, LeO (bluebellref06_deep.j3 k y0 y1 y2 y3 y4 y5 y6 y7 y8 y9 y10 y11 y12 y13 y14) (bluebellref06_deep.j3 (k + 1) y0 y1 y2 y3 y4 y5 y6 y7 y8 y9 y10 y11 y12 y13 y14)) ∧ (∀ y0 y1 y2 y3 y4 y5 y6 y7 y8 y9 y10 y11 y12 y13 y14, LeO (bluebellref06_deep.j4 k y0 y1 y2 y3 y4 y5 y6 y7 y8 y9 y10 y11 y12 y13 y14) (bluebellref06_deep.j4 (k + 1) y0 y1 y2 y3 y4 y5 y6 y7 y8 y9 y10 y11 y12 y13 y14))
 | 0 => ⟨fun _ _ _ _ _ _ _ _ _ _ _ r h => by simp [bluebellref06_deep.l0] at h, fun _ _ _ _ _ _ _ _ _ _ _ _ _ _ _ _ r h => by simp [bluebellref06_deep.j1] at h, fun _ _ _ _ _ _ _ _ _ _ _ _ _ _ _ r h => by simp [bluebellref06_deep.j2] at h, fun _ _ _ _ _ _ _ _ _ _ _ _ _ _ _ r h => by simp [bluebellref06_deep.j3] at h, fun _ _ _ _ _ _ _ _ _ _ _ _ _ _ _ r h => by simp [bluebellref06_deep.j4] at h⟩
 | k + 1 => by
  obtain ⟨ih0, ih1, ih2, ih3, ih4⟩ := bluebellref06_deep.mono_l k
  refine ⟨?_, ?_, ?_, ?_, ?_⟩
  ·intro y0 y1 y2 y3 y4 y5 y6 y7 y8 y9 y10
   unfold bluebellref06_deep.l0
   repeat' first
   | (with_reducible exact ih0 _ _ _ _ _ _ _ _ _ _ _)
   | (with_reducible exact ih1 _ _ _ _ _ _ _ _ _ _ _ _ _ _ _ _)
   | (with_reducible exact ih2 _ _ _ _ _ _ _ _ _ _ _ _ _ _ _)
   | (with_reducible exact ih3 _ _ _ _ _ _ _ _ _ _ _ _ _ _ _)
   | (with_reducible exact ih4 _ _ _ _ _ _ _ _ _ _ _ _ _ _ _)
   | (with_reducible exact bluebellref06_After.mono _ _ _ _ _)
   | (with_reducible exact bluebellref06_Label.mono _ _ _ _)
   | (with_reducible exact bluebellref06_lands.mono _ _ _)
   | (with_reducible exact bluebellref06_local.mono _ _ _ _ _)
   | (with_reducible exact bluebellref06_needs.mono _ _ _ _)
   | (with_reducible exact LeO.refl _)
   | (with_reducible exact LeO.none _)
   | (with_reducible refine LeO.ite ?_ ?_)
   | (with_reducible refine LeO.bind ?_ (fun _ => ?_))
   | exact ih0 _ _ _ _ _ _ _ _ _ _ _
   | exact ih1 _ _ _ _ _ _ _ _ _ _ _ _ _ _ _ _
   | exact ih2 _ _ _ _ _ _ _ _ _ _ _ _ _ _ _
   | exact ih3 _ _ _ _ _ _ _ _ _ _ _ _ _ _ _
   | exact ih4 _ _ _ _ _ _ _ _ _ _ _ _ _ _ _
   | exact bluebellref06_After.mono _ _ _ _ _
   | exact bluebellref06_Label.mono _ _ _ _
   | exact bluebellref06_lands.mono _ _ _
   | exact bluebellref06_local.mono _ _ _ _ _
   | exact bluebellref06_needs.mono _ _ _ _
   | exact LeO.none _
   | refine LeO.ite ?_ ?_
   | refine LeO.bind ?_ (fun _ => ?_)
  ·intro y0 y1 y2 y3 y4 y5 y6 y7 y8 y9 y10 y11 y12 y13 y14 y15
   unfold bluebellref06_deep.j1
   repeat' first
   | (with_reducible exact ih0 _ _ _ _ _ _ _ _ _ _ _)
   | (with_reducible exact ih1 _ _ _ _ _ _ _ _ _ _ _ _ _ _ _ _)
   | (with_reducible exact ih2 _ _ _ _ _ _ _ _ _ _ _ _ _ _ _)
   | (with_reducible exact ih3 _ _ _ _ _ _ _ _ _ _ _ _ _ _ _)
   | (with_reducible exact ih4 _ _ _ _ _ _ _ _ _ _ _ _ _ _ _)
   | (with_reducible exact bluebellref06_After.mono _ _ _ _ _)
   | (with_reducible exact bluebellref06_Label.mono _ _ _ _)
   | (with_reducible exact bluebellref06_lands.mono _ _ _)
   | (with_reducible exact bluebellref06_local.mono _ _ _ _ _)
   | (with_reducible exact bluebellref06_needs.mono _ _ _ _)
   | (with_reducible exact LeO.refl _)
   | (with_reducible exact LeO.none _)
   | (with_reducible refine LeO.ite ?_ ?_)
   | (with_reducible refine LeO.bind ?_ (fun _ => ?_))
   | exact ih0 _ _ _ _ _ _ _ _ _ _ _
   | exact ih1 _ _ _ _ _ _ _ _ _ _ _ _ _ _ _ _
   | exact ih2 _ _ _ _ _ _ _ _ _ _ _ _ _ _ _
   | exact ih3 _ _ _ _ _ _ _ _ _ _ _ _ _ _ _
   | exact ih4 _ _ _ _ _ _ _ _ _ _ _ _ _ _ _
   | exact bluebellref06_After.mono _ _ _ _ _
   | exact bluebellref06_Label.mono _ _ _ _
   | exact bluebellref06_lands.mono _ _ _
   | exact bluebellref06_local.mono _ _ _ _ _
   | exact bluebellref06_needs.mono _ _ _ _
   | exact LeO.none _
   | refine LeO.ite ?_ ?_
   | refine LeO.bind ?_ (fun _ => ?_)
  ·intro y0 y1 y2 y3 y4 y5 y6 y7 y8 y9 y10 y11 y12 y13 y14
   unfold bluebellref06_deep.j2
   repeat' first
   | (with_reducible exact ih0 _ _ _ _ _ _ _ _ _ _ _)
   | (with_reducible exact ih1 _ _ _ _ _ _ _ _ _ _ _ _ _ _ _ _)
   | (with_reducible exact ih2 _ _ _ _ _ _ _ _ _ _ _ _ _ _ _)
   | (with_reducible exact ih3 _ _ _ _ _ _ _ _ _ _ _ _ _ _ _)
   | (with_reducible exact ih4 _ _ _ _ _ _ _ _ _ _ _ _ _ _ _)
   | (with_reducible exact bluebellref06_After.mono _ _ _ _ _)
   | (with_reducible exact bluebellref06_Label.mono _ _ _ _)
   | (with_reducible exact bluebellref06_lands.mono _ _ _)
   | (with_reducible exact bluebellref06_local.mono _ _ _ _ _)
   | (with_reducible exact bluebellref06_needs.mono _ _ _ _)
   | (with_reducible exact LeO.refl _)
   | (with_reducible exact LeO.none _)
   | (with_reducible refine LeO.ite ?_ ?_)
   | (with_reducible refine LeO.bind ?_ (fun _ => ?_))
   | exact ih0 _ _ _ _ _ _ _ _ _ _ _
   | exact ih1 _ _ _ _ _ _ _ _ _ _ _ _ _ _ _ _
   | exact ih2 _ _ _ _ _ _ _ _ _ _ _ _ _ _ _
   | exact ih3 _ _ _ _ _ _ _ _ _ _ _ _ _ _ _
   | exact ih4 _ _ _ _ _ _ _ _ _ _ _ _ _ _ _
   | exact bluebellref06_After.mono _ _ _ _ _
   | exact bluebellref06_Label.mono _ _ _ _
   | exact bluebellref06_lands.mono _ _ _
   | exact bluebellref06_local.mono _ _ _ _ _
   | exact bluebellref06_needs.mono _ _ _ _
   | exact LeO.none _
   | refine LeO.ite ?_ ?_
   | refine LeO.bind ?_ (fun _ => ?_)
  ·intro y0 y1 y2 y3 y4 y5 y6 y7 y8 y9 y10 y11 y12 y13 y14
   unfold bluebellref06_deep.j3
   repeat' first
   | (with_reducible exact ih0 _ _ _ _ _ _ _ _ _ _ _)
   | (with_reducible exact ih1 _ _ _ _ _ _ _ _ _ _ _ _ _ _ _ _)
   | (with_reducible exact ih2 _ _ _ _ _ _ _ _ _ _ _ _ _ _ _)
   | (with_reducible exact ih3 _ _ _ _ _ _ _ _ _ _ _ _ _ _ _)
   | (with_reducible exact ih4 _ _ _ _ _ _ _ _ _ _ _ _ _ _ _)
   | (with_reducible exact bluebellref06_After.mono _ _ _ _ _)
   | (with_reducible exact bluebellref06_Label.mono _ _ _ _)
   | (with_reducible exact bluebellref06_lands.mono _ _ _)
   | (with_reducible exact bluebellref06_local.mono _ _ _ _ _)
   | (with_reducible exact bluebellref06_needs.mono _ _ _ _)
   | (with_reducible exact LeO.refl _)
   | (with_reducible exact LeO.none _)
   | (with_reducible refine LeO.ite ?_ ?_)
   | (with_reducible refine LeO.bind ?_ (fun _ => ?_))
   | exact ih0 _ _ _ _ _ _ _ _ _ _ _
   | exact ih1 _ _ _ _ _ _ _ _ _ _ _ _ _ _ _ _
   | exact ih2 _ _ _ _ _ _ _ _ _ _ _ _ _ _ _
   | exact ih3 _ _ _ _ _ _ _ _ _ _ _ _ _ _ _
   | exact ih4 _ _ _ _ _ _ _ _ _ _ _ _ _ _ _
   | exact bluebellref06_After.mono _ _ _ _ _
   | exact bluebellref06_Label.mono _ _ _ _
   | exact bluebellref06_lands.mono _ _ _
   | exact bluebellref06_local.mono _ _ _ _ _
   | exact bluebellref06_needs.mono _ _ _ _
   | exact LeO.none _
   | refine LeO.ite ?_ ?_
   | refine LeO.bind ?_ (fun _ => ?_)
  ·intro y0 y1 y2 y3 y4 y5 y6 y7 y8 y9 y10 y11 y12 y13 y14
   unfold bluebellref06_deep.j4
   repeat' first
   | (with_reducible exact ih0 _ _ _ _ _ _ _ _ _ _ _)
   | (with_reducible exact ih1 _ _ _ _ _ _ _ _ _ _ _ _ _ _ _ _)
   | (with_reducible exact ih2 _ _ _ _ _ _ _ _ _ _ _ _ _ _ _)
   | (with_reducible exact ih3 _ _ _ _ _ _ _ _ _ _ _ _ _ _ _)
   | (with_reducible exact ih4 _ _ _ _ _ _ _ _ _ _ _ _ _ _ _)
   | (with_reducible exact bluebellref06_After.mono _ _ _ _ _)
   | (with_reducible exact bluebellref06_Label.mono _ _ _ _)
   | (with_reducible exact bluebellref06_lands.mono _ _ _)
   | (with_reducible exact bluebellref06_local.mono _ _ _ _ _)
   | (with_reducible exact bluebellref06_needs.mono _ _ _ _)
   | (with_reducible exact LeO.refl _)
   | (with_reducible exact LeO.none _)
   | (with_reducible refine LeO.ite ?_ ?_)
   | (with_reducible refine LeO.bind ?_ (fun _ => ?_))
   | exact ih0 _ _ _ _ _ _ _ _ _ _ _
   | exact ih1 _ _ _ _ _ _ _ _ _ _ _ _ _ _ _ _
   | exact ih2 _ _ _ _ _ _ _ _ _ _ _ _ _ _ _
   | exact ih3 _ _ _ _ _ _ _ _ _ _ _ _ _ _ _
   | exact ih4 _ _ _ _ _ _ _ _ _ _ _ _ _ _ _
   | exact bluebellref06_After.mono _ _ _ _ _
   | exact bluebellref06_Label.mono _ _ _ _
   | exact bluebellref06_lands.mono _ _ _
   | exact bluebellref06_local.mono _ _ _ _ _
   | exact bluebellref06_needs.mono _ _ _ _
   | exact LeO.none _
   | refine LeO.ite ?_ ?_
   | refine LeO.bind ?_ (fun _ => ?_)
theorem bluebellref06_deep.mono : ∀ a0 a1 a2 a3 a4 a5 a6 a7 k, LeO (bluebellref06_deep.f k a0 a1 a2 a3 a4 a5 a6 a7) (bluebellref06_deep.f (k + 1) a0 a1 a2 a3 a4 a5 a6 a7) := by
 intro a0 a1 a2 a3 a4 a5 a6 a7 k
 obtain ⟨ih0, ih1, ih2, ih3, ih4⟩ := bluebellref06_deep.mono_l k
 unfold bluebellref06_deep.f
 repeat' first
   | (with_reducible exact ih0 _ _ _ _ _ _ _ _ _ _ _)
   | (with_reducible exact ih1 _ _ _ _ _ _ _ _ _ _ _ _ _ _ _ _)
   | (with_reducible exact ih2 _ _ _ _ _ _ _ _ _ _ _ _ _ _ _)
   | (with_reducible exact ih3 _ _ _ _ _ _ _ _ _ _ _ _ _ _ _)
   | (with_reducible exact ih4 _ _ _ _ _ _ _ _ _ _ _ _ _ _ _)
   | (with_reducible exact bluebellref06_After.mono _ _ _ _ _)
   | (with_reducible exact bluebellref06_Label.mono _ _ _ _)
   | (with_reducible exact bluebellref06_lands.mono _ _ _)
   | (with_reducible exact bluebellref06_local.mono _ _ _ _ _)
   | (with_reducible exact bluebellref06_needs.mono _ _ _ _)
   | (with_reducible exact LeO.refl _)
   | (with_reducible exact LeO.none _)
   | (with_reducible refine LeO.ite ?_ ?_)
   | (with_reducible refine LeO.bind ?_ (fun _ => ?_))
   | exact ih0 _ _ _ _ _ _ _ _ _ _ _
   | exact ih1 _ _ _ _ _ _ _ _ _ _ _ _ _ _ _ _
   | exact ih2 _ _ _ _ _ _ _ _ _ _ _ _ _ _ _
   | exact ih3 _ _ _ _ _ _ _ _ _ _ _ _ _ _ _
   | exact ih4 _ _ _ _ _ _ _ _ _ _ _ _ _ _ _
   | exact bluebellref06_After.mono _ _ _ _ _
   | exact bluebellref06_Label.mono _ _ _ _
   | exact bluebellref06_lands.mono _ _ _
   | exact bluebellref06_local.mono _ _ _ _ _
   | exact bluebellref06_needs.mono _ _ _ _
   | exact LeO.none _
   | refine LeO.ite ?_ ?_
   | refine LeO.bind ?_ (fun _ => ?_)
set_option maxHeartbeats 8000000 in
set_option maxRecDepth 100000 in
theorem bluebellref06_deep.calls (k : Nat) (a0_0 : ByteArray) (A0_1 : Option Addr) (c0_1 : Nat) (l0_1 : List (S47)) (A0_2 : Option Addr) (c0_2 : Nat) (l0_2 : List (S35)) (A0_3 : Option Addr) (c0_3 : Nat) (l0_3 : List (S68)) (a0_4 : Int) (a0_5 : Int) (A1_0 : Option Addr) (c1_0 : Nat) (l1_0 : List Int) (A1_1 : Option Addr) (c1_1 : Nat) (l1_1 : List Int) (r : Bool) (w : World) (hr0_1 : Kd.C k47 w A0_1 l0_1.length l0_1) (hc0_1 : l0_1.length ≤ c0_1) (hr0_2 : Kd.C k35 w A0_2 l0_2.length l0_2) (hc0_2 : l0_2.length ≤ c0_2) (hr0_3 : Kd.C k68 w A0_3 l0_3.length l0_3) (hc0_3 : l0_3.length ≤ c0_3) (hr1_0 : Kd.C (Kd.int .i64) w A1_0 l1_0.length l1_0) (hc1_0 : l1_0.length ≤ c1_0) (hr1_1 : Kd.C (Kd.int .i64) w A1_1 l1_1.length l1_1) (hc1_1 : l1_1.length ≤ c1_1) (h : bluebellref06_deep.f k a0_0 l0_1 l0_2 l0_3 a0_4 a0_5 l1_0 l1_1 = some r) :
  Calls Try.prog 47 #[.agg #[.string a0_0, .slice A0_1 l0_1.length c0_1, .slice A0_2 l0_2.length c0_2, .slice A0_3 l0_3.length c0_3, .int .i64 a0_4, .int .i64 a0_5], .agg #[.slice A1_0 l1_0.length c1_0, .slice A1_1 l1_1.length c1_1]] w fun e w' => e = .returned (.bool r) ∧ Below w.heap.size w w' := by
 have hu26 := Try.underlying26
 have hu60 := Try.underlying60
 have hu35 := Try.underlying35
 have HR0_1 := Aside0.mk hr0_1
 have HC0_1 := Aside0.mk hc0_1
 clear hr0_1 hc0_1
 have HR0_2 := Aside0.mk hr0_2
 have HC0_2 := Aside0.mk hc0_2
 clear hr0_2 hc0_2
 have HR0_3 := Aside0.mk hr0_3
 have HC0_3 := Aside0.mk hc0_3
 clear hr0_3 hc0_3
 have HR1_0 := Aside0.mk hr1_0
 have HC1_0 := Aside0.mk hc1_0
 clear hr1_0 hc1_0
 have HR1_1 := Aside0.mk hr1_1
 have HC1_1 := Aside0.mk hc1_1
 clear hr1_1 hc1_1
 have HB := Aside0.mk (Below.refl w.heap.size w)
 have H : (bluebellref06_deep.l0 k 0 false 0 a0_0 l0_1 l0_2 l0_3 a0_4 a0_5 l1_0 l1_1) = some r := h
 clear h
 have H' := Aside0.mk H
 clear H
 go_enter Try.func47, Try.ntmps47
 go_wp2_with (first | ((with_reducible refine gate_dst (N := 2) rfl ?_); refine boxev (N := 2) (cs := #[.string a0_0, .slice A0_1 l0_1.length c0_1, .slice A0_2 l0_2.length c0_2, .slice A0_3 l0_3.length c0_3, .int .i64 a0_4, .int .i64 a0_5]) (t := 26) ?_; intro gb436 hg w3 hbox hb; have n0_ := Aside0.mk (bstep hb); have n1_ := Aside0.mk (hbox); have n2_ := Aside0.mk ((by rw [hg]; exact bsz : w.heap.size ≤ gb436)); have n3_ := Aside0.mk ((by rw [hg]; exact bsz : w.heap.size ≤ gb436)); clear HB; have HB := n0_; have BK436 := n1_; have GW436 := n2_; have GE436 := n3_; clear n0_ n1_ n2_ n3_; clear hb hbox hg) | ((with_reducible refine gate_dst (N := 3) rfl ?_); refine boxev (N := 3) (cs := #[.slice A1_0 l1_0.length c1_0, .slice A1_1 l1_1.length c1_1]) (t := 60) ?_; intro gb437 hg w4 hbox hb; have n0_ := Aside0.mk (bkb (g := gb436) hb); have n1_ := Aside0.mk (bstep hb); have n2_ := Aside0.mk (hbox); have n3_ := Aside0.mk ((by rw [hg]; exact bsz : w.heap.size ≤ gb437)); have n4_ := Aside0.mk ((by rw [hg]; exact bsz : w.heap.size ≤ gb437)); have n5_ := Aside0.mk ((by rw [hg]; exact Nat.ne_of_lt (bkl (g := gb436)) : gb436 ≠ gb437)); have n6_ := Aside0.mk ((by rw [hg]; exact Nat.ne_of_gt (bkl (g := gb436)) : gb437 ≠ gb436)); clear BK436; clear HB; have BK436 := n0_; have HB := n1_; have BK437 := n2_; have GW437 := n3_; have GE437 := n4_; have NB436_437 := n5_; have NB437_436 := n6_; clear n0_ n1_ n2_ n3_ n4_ n5_ n6_; clear hb hbox hg))
 repeat (go_quiet (first | ((with_reducible refine gate_dst (N := 2) rfl ?_); refine boxev (N := 2) (cs := #[.string a0_0, .slice A0_1 l0_1.length c0_1, .slice A0_2 l0_2.length c0_2, .slice A0_3 l0_3.length c0_3, .int .i64 a0_4, .int .i64 a0_5]) (t := 26) ?_; intro gb436 hg w3 hbox hb; have n0_ := Aside0.mk (bstep hb); have n1_ := Aside0.mk (hbox); have n2_ := Aside0.mk ((by rw [hg]; exact bsz : w.heap.size ≤ gb436)); have n3_ := Aside0.mk ((by rw [hg]; exact bsz : w.heap.size ≤ gb436)); clear HB; have HB := n0_; have BK436 := n1_; have GW436 := n2_; have GE436 := n3_; clear n0_ n1_ n2_ n3_; clear hb hbox hg) | ((with_reducible refine gate_dst (N := 3) rfl ?_); refine boxev (N := 3) (cs := #[.slice A1_0 l1_0.length c1_0, .slice A1_1 l1_1.length c1_1]) (t := 60) ?_; intro gb437 hg w4 hbox hb; have n0_ := Aside0.mk (bkb (g := gb436) hb); have n1_ := Aside0.mk (bstep hb); have n2_ := Aside0.mk (hbox); have n3_ := Aside0.mk ((by rw [hg]; exact bsz : w.heap.size ≤ gb437)); have n4_ := Aside0.mk ((by rw [hg]; exact bsz : w.heap.size ≤ gb437)); have n5_ := Aside0.mk ((by rw [hg]; exact Nat.ne_of_lt (bkl (g := gb436)) : gb436 ≠ gb437)); have n6_ := Aside0.mk ((by rw [hg]; exact Nat.ne_of_gt (bkl (g := gb436)) : gb437 ≠ gb436)); clear BK436; clear HB; have BK436 := n0_; have HB := n1_; have BK437 := n2_; have GW437 := n3_; have GE437 := n4_; have NB436_437 := n5_; have NB437_436 := n6_; clear n0_ n1_ n2_ n3_ n4_ n5_ n6_; clear hb hbox hg)); try go_wp2_with (first | ((with_reducible refine gate_dst (N := 2) rfl ?_); refine boxev (N := 2) (cs := #[.string a0_0, .slice A0_1 l0_1.length c0_1, .slice A0_2 l0_2.length c0_2, .slice A0_3 l0_3.length c0_3, .int .i64 a0_4, .int .i64 a0_5]) (t := 26) ?_; intro gb436 hg w3 hbox hb; have n0_ := Aside0.mk (bstep hb); have n1_ := Aside0.mk (hbox); have n2_ := Aside0.mk ((by rw [hg]; exact bsz : w.heap.size ≤ gb436)); have n3_ := Aside0.mk ((by rw [hg]; exact bsz : w.heap.size ≤ gb436)); clear HB; have HB := n0_; have BK436 := n1_; have GW436 := n2_; have GE436 := n3_; clear n0_ n1_ n2_ n3_; clear hb hbox hg) | ((with_reducible refine gate_dst (N := 3) rfl ?_); refine boxev (N := 3) (cs := #[.slice A1_0 l1_0.length c1_0, .slice A1_1 l1_1.length c1_1]) (t := 60) ?_; intro gb437 hg w4 hbox hb; have n0_ := Aside0.mk (bkb (g := gb436) hb); have n1_ := Aside0.mk (bstep hb); have n2_ := Aside0.mk (hbox); have n3_ := Aside0.mk ((by rw [hg]; exact bsz : w.heap.size ≤ gb437)); have n4_ := Aside0.mk ((by rw [hg]; exact bsz : w.heap.size ≤ gb437)); have n5_ := Aside0.mk ((by rw [hg]; exact Nat.ne_of_lt (bkl (g := gb436)) : gb436 ≠ gb437)); have n6_ := Aside0.mk ((by rw [hg]; exact Nat.ne_of_gt (bkl (g := gb436)) : gb437 ≠ gb436)); clear BK436; clear HB; have BK436 := n0_; have HB := n1_; have BK437 := n2_; have GW437 := n3_; have GE437 := n4_; have NB436_437 := n5_; have NB437_436 := n6_; clear n0_ n1_ n2_ n3_ n4_ n5_ n6_; clear hb hbox hg)))
 go_loopg [5, 6, 7] k (fun kq v5 v6 v7 w' => ∃ (x5_1 : Int) (x6_1 : Bool) (x7_1 : Int), v5 = .int .i64 x5_1 ∧ v6 = .bool x6_1 ∧ v7 = .int .i64 x7_1 ∧ Aside0 (bluebellref06_deep.l0 kq x5_1 x6_1 x7_1 a0_0 l0_1 l0_2 l0_3 a0_4 a0_5 l1_0 l1_1 = some r) ∧ Aside0 (kq ≤ k) ∧ Aside0 (w'.heap[gb436]? = some (.cells #[.string a0_0, (.slice A0_1 l0_1.length c0_1), (.slice A0_2 l0_2.length c0_2), (.slice A0_3 l0_3.length c0_3), .int .i64 a0_4, .int .i64 a0_5] 26 (0, 0))) ∧ Aside0 (w'.heap[gb437]? = some (.cells #[(.slice A1_0 l1_0.length c1_0), (.slice A1_1 l1_1.length c1_1)] 60 (0, 0))) ∧ Aside0 (Below w.heap.size w w'))
 case atStart => exact ⟨(0), (false), (0), wrE, wrE, wrE, H', ⟨Nat.le_refl _⟩, ⟨bk⟩, ⟨bk⟩, ⟨bw⟩⟩
 case round =>
  clear H'
  obtain ⟨x5_1, x6_1, x7_1, rfl, rfl, rfl, HA, HK1, BK436, BK437, HB⟩ := hrel
  cases gk with
  | zero => exact absurd HA.out (by simp [bluebellref06_deep.l0])
  | succ k1 =>
   have H := HA.out
   clear HA
   simp only [bluebellref06_deep.l0] at H
   by_cases c5 : x7_1 < (l0_2.length : Int)
   ·rw [if_pos c5] at H
    have c5b0 : decide (x7_1 < (l0_2.length : Int)) = true := decide_eq_true c5
    clear c5
    by_cases c6 : 0 ≤ x7_1
    rotate_left
    ·rw [if_neg c6] at H
     exact absurd H (by simp)
    rw [if_pos c6] at H
    have c6b0 : decide (0 ≤ x7_1) = true := decide_eq_true c6
    clear c6
    by_cases c7 : ((rd_T35 l0_2 x7_1).f0) = 24
    ·rw [if_pos c7] at H
     have c7b0 : (((rd_T35 l0_2 x7_1).f0) == 24) = true := beq_iff_eq.mpr c7
     have c7b1 : (((rd_T35 l0_2 x7_1).f0) != 24) = false := bne_eq_false_iff_eq.mpr c7
     clear c7
     have H' := Aside0.mk H
     clear H
     have hnb8 := NB436_437.out
     have hnc8 := NB437_436.out
     obtain ⟨hcz9_0, hcz9_1, hcz9_2, hcz9_3, hcz9_4, hcz9_5, hfz9_0, hfz9_1, hfz9_2, hfz9_3, hfz9_4, hfz9_5⟩ := cells6 BK436.out
     have p438 : 0 ≤ (x7_1 : Int) := ofd
     have q438 : x7_1 < (l0_2.length : Int) := ofd
     obtain ⟨ad438, e438, hx438_0, hx438_1, hx438_2⟩ := at_T35 HR0_2.out x7_1 p438 q438
     cases e438
     replace hx438_0 := (HB.out.cell (World.block_lt_of_cell? w _ hx438_0)).trans hx438_0
     replace hx438_1 := (HB.out.cell (World.block_lt_of_cell? w _ hx438_1)).trans hx438_1
     replace hx438_2 := (HB.out.cell (World.block_lt_of_cell? w _ hx438_2)).trans hx438_2
     replace p438 := eq_true p438
     replace q438 := eq_true q438
     go_wp2_with (first | ((with_reducible refine gate_dst (N := 8) rfl ?_); refine boxev (N := 8) (cs := #[.int .i64 0, .int .i64 0, .int .i64 0]) (t := 35) ?_; intro gb439 hg w10 hbox hb; have n0_ := Aside0.mk (bkb (g := gb436) hb); have n1_ := Aside0.mk (bkb (g := gb437) hb); have n2_ := Aside0.mk (bstep hb); have n3_ := Aside0.mk (hbox); have n4_ := Aside0.mk ((by rw [hg]; exact bsz : w.heap.size ≤ gb439)); have n5_ := Aside0.mk ((by rw [hg]; exact bsz : w.heap.size ≤ gb439)); have n6_ := Aside0.mk ((by rw [hg]; exact Nat.ne_of_lt (bkl (g := gb436)) : gb436 ≠ gb439)); have n7_ := Aside0.mk ((by rw [hg]; exact Nat.ne_of_gt (bkl (g := gb436)) : gb439 ≠ gb436)); have n8_ := Aside0.mk ((by rw [hg]; exact Nat.ne_of_lt (bkl (g := gb437)) : gb437 ≠ gb439)); have n9_ := Aside0.mk ((by rw [hg]; exact Nat.ne_of_gt (bkl (g := gb437)) : gb439 ≠ gb437)); clear BK436; clear BK437; clear HB; have BK436 := n0_; have BK437 := n1_; have HB := n2_; have BK439 := n3_; have GW439 := n4_; have GE439 := n5_; have NB436_439 := n6_; have NB439_436 := n7_; have NB437_439 := n8_; have NB439_437 := n9_; clear n0_ n1_ n2_ n3_ n4_ n5_ n6_ n7_ n8_ n9_; clear hb hbox hg; have hnb11 := NB439_436.out; have hnc11 := NB436_439.out; have hnb12 := NB439_437.out; have hnc12 := NB437_439.out; obtain ⟨hcz13_0, hcz13_1, hcz13_2, hfz13_0, hfz13_1, hfz13_2⟩ := cells3 BK439.out))
     repeat (go_quiet (first | ((with_reducible refine gate_dst (N := 8) rfl ?_); refine boxev (N := 8) (cs := #[.int .i64 0, .int .i64 0, .int .i64 0]) (t := 35) ?_; intro gb439 hg w10 hbox hb; have n0_ := Aside0.mk (bkb (g := gb436) hb); have n1_ := Aside0.mk (bkb (g := gb437) hb); have n2_ := Aside0.mk (bstep hb); have n3_ := Aside0.mk (hbox); have n4_ := Aside0.mk ((by rw [hg]; exact bsz : w.heap.size ≤ gb439)); have n5_ := Aside0.mk ((by rw [hg]; exact bsz : w.heap.size ≤ gb439)); have n6_ := Aside0.mk ((by rw [hg]; exact Nat.ne_of_lt (bkl (g := gb436)) : gb436 ≠ gb439)); have n7_ := Aside0.mk ((by rw [hg]; exact Nat.ne_of_gt (bkl (g := gb436)) : gb439 ≠ gb436)); have n8_ := Aside0.mk ((by rw [hg]; exact Nat.ne_of_lt (bkl (g := gb437)) : gb437 ≠ gb439)); have n9_ := Aside0.mk ((by rw [hg]; exact Nat.ne_of_gt (bkl (g := gb437)) : gb439 ≠ gb437)); clear BK436; clear BK437; clear HB; have BK436 := n0_; have BK437 := n1_; have HB := n2_; have BK439 := n3_; have GW439 := n4_; have GE439 := n5_; have NB436_439 := n6_; have NB439_436 := n7_; have NB437_439 := n8_; have NB439_437 := n9_; clear n0_ n1_ n2_ n3_ n4_ n5_ n6_ n7_ n8_ n9_; clear hb hbox hg; have hnb11 := NB439_436.out; have hnc11 := NB436_439.out; have hnb12 := NB439_437.out; have hnc12 := NB437_439.out; obtain ⟨hcz13_0, hcz13_1, hcz13_2, hfz13_0, hfz13_1, hfz13_2⟩ := cells3 BK439.out)); try go_wp2_with (first | ((with_reducible refine gate_dst (N := 8) rfl ?_); refine boxev (N := 8) (cs := #[.int .i64 0, .int .i64 0, .int .i64 0]) (t := 35) ?_; intro gb439 hg w10 hbox hb; have n0_ := Aside0.mk (bkb (g := gb436) hb); have n1_ := Aside0.mk (bkb (g := gb437) hb); have n2_ := Aside0.mk (bstep hb); have n3_ := Aside0.mk (hbox); have n4_ := Aside0.mk ((by rw [hg]; exact bsz : w.heap.size ≤ gb439)); have n5_ := Aside0.mk ((by rw [hg]; exact bsz : w.heap.size ≤ gb439)); have n6_ := Aside0.mk ((by rw [hg]; exact Nat.ne_of_lt (bkl (g := gb436)) : gb436 ≠ gb439)); have n7_ := Aside0.mk ((by rw [hg]; exact Nat.ne_of_gt (bkl (g := gb436)) : gb439 ≠ gb436)); have n8_ := Aside0.mk ((by rw [hg]; exact Nat.ne_of_lt (bkl (g := gb437)) : gb437 ≠ gb439)); have n9_ := Aside0.mk ((by rw [hg]; exact Nat.ne_of_gt (bkl (g := gb437)) : gb439 ≠ gb437)); clear BK436; clear BK437; clear HB; have BK436 := n0_; have BK437 := n1_; have HB := n2_; have BK439 := n3_; have GW439 := n4_; have GE439 := n5_; have NB436_439 := n6_; have NB439_436 := n7_; have NB437_439 := n8_; have NB439_437 := n9_; clear n0_ n1_ n2_ n3_ n4_ n5_ n6_ n7_ n8_ n9_; clear hb hbox hg; have hnb11 := NB439_436.out; have hnc11 := NB436_439.out; have hnb12 := NB439_437.out; have hnc12 := NB437_439.out; obtain ⟨hcz13_0, hcz13_1, hcz13_2, hfz13_0, hfz13_1, hfz13_2⟩ := cells3 BK439.out)))
     go_roundg k1
     case measure => have := HK1.out; omega
     case rel => exact ⟨(wrap64 (2 + ((rd_T35 l0_2 x7_1).f2))), (true), (wrap64 (x7_1 + 1)), wrE, wrE, wrE, H', ⟨by have := HK1.out; omega⟩, ⟨by (with_reducible repeat (first | refine blk_drewN ?_ _ | refine blk_drew ?_ | refine blk_alloc ?_ _)); refine blk_far ?_ NB436_439.out _; (with_reducible repeat (first | refine blk_drewN ?_ _ | refine blk_drew ?_ | refine blk_alloc ?_ _)); refine blk_far ?_ NB436_439.out _; (with_reducible repeat (first | refine blk_drewN ?_ _ | refine blk_drew ?_ | refine blk_alloc ?_ _)); refine blk_far ?_ NB436_439.out _; (with_reducible repeat (first | refine blk_drewN ?_ _ | refine blk_drew ?_ | refine blk_alloc ?_ _)); exact BK436.out⟩, ⟨by (with_reducible repeat (first | refine blk_drewN ?_ _ | refine blk_drew ?_ | refine blk_alloc ?_ _)); refine blk_far ?_ NB437_439.out _; (with_reducible repeat (first | refine blk_drewN ?_ _ | refine blk_drew ?_ | refine blk_alloc ?_ _)); refine blk_far ?_ NB437_439.out _; (with_reducible repeat (first | refine blk_drewN ?_ _ | refine blk_drew ?_ | refine blk_alloc ?_ _)); refine blk_far ?_ NB437_439.out _; (with_reducible repeat (first | refine blk_drewN ?_ _ | refine blk_drew ?_ | refine blk_alloc ?_ _)); exact BK437.out⟩, ⟨bw⟩⟩
    ·rw [if_neg c7] at H
     have c7b0 : (((rd_T35 l0_2 x7_1).f0) == 24) = false := beq_eq_false_iff_ne.mpr c7
     have c7b1 : (((rd_T35 l0_2 x7_1).f0) != 24) = true := bne_iff_ne.mpr c7
     replace H := Option.bind_eq_some_iff.mp H
     obtain ⟨t440, A140, H⟩ := H
     replace H : (if ((rd_T35 l0_2 x7_1).f0) = 18 then (if 0 ≤ (wrap64 (x7_1 - 1)) then (if (wrap64 (x7_1 - 1)) < (l0_2.length : Int) then (bluebellref06_deep.j1 k1 x5_1 x6_1 x7_1 t440 (((rd_T35 l0_2 (wrap64 (x7_1 - 1))).f0) == 19) a0_0 l0_1 l0_2 l0_3 a0_4 a0_5 l1_0 l1_1 ((rd_T35 l0_2 x7_1).f0) ((rd_T35 l0_2 x7_1).f1) ((rd_T35 l0_2 x7_1).f2)) else (none)) else (none)) else (bluebellref06_deep.j1 k1 x5_1 x6_1 x7_1 t440 false a0_0 l0_1 l0_2 l0_3 a0_4 a0_5 l1_0 l1_1 ((rd_T35 l0_2 x7_1).f0) ((rd_T35 l0_2 x7_1).f1) ((rd_T35 l0_2 x7_1).f2))) = some r := H
     have A14 := Aside0.mk A140
     clear A140
     have HC15 := Aside0.mk H
     clear H
     have hnb16 := NB436_437.out
     have hnc16 := NB437_436.out
     obtain ⟨hcz17_0, hcz17_1, hcz17_2, hcz17_3, hcz17_4, hcz17_5, hfz17_0, hfz17_1, hfz17_2, hfz17_3, hfz17_4, hfz17_5⟩ := cells6 BK436.out
     have p438 : 0 ≤ (x7_1 : Int) := ofd
     have q438 : x7_1 < (l0_2.length : Int) := ofd
     obtain ⟨ad438, e438, hx438_0, hx438_1, hx438_2⟩ := at_T35 HR0_2.out x7_1 p438 q438
     cases e438
     replace hx438_0 := (HB.out.cell (World.block_lt_of_cell? w _ hx438_0)).trans hx438_0
     replace hx438_1 := (HB.out.cell (World.block_lt_of_cell? w _ hx438_1)).trans hx438_1
     replace hx438_2 := (HB.out.cell (World.block_lt_of_cell? w _ hx438_2)).trans hx438_2
     replace p438 := eq_true p438
     replace q438 := eq_true q438
     go_upto_region 10 with (first | ((with_reducible refine gate_dst (N := 8) rfl ?_); refine boxev (N := 8) (cs := #[.int .i64 0, .int .i64 0, .int .i64 0]) (t := 35) ?_; intro gb439 hg w18 hbox hb; have n0_ := Aside0.mk (blk_below (g := gb436) (o := .cells #[.string a0_0, .slice A0_1 l0_1.length c0_1, .slice (some ad438) l0_2.length c0_2, .slice A0_3 l0_3.length c0_3, .int .i64 a0_4, .int .i64 a0_5] 26 (0, 0)) bk hb); have n1_ := Aside0.mk (blk_below (g := gb437) (o := .cells #[.slice A1_0 l1_0.length c1_0, .slice A1_1 l1_1.length c1_1] 60 (0, 0)) bk hb); have n2_ := Aside0.mk (bstep hb); have n3_ := Aside0.mk (hbox); have n4_ := Aside0.mk ((by rw [hg]; exact bsz : w.heap.size ≤ gb439)); have n5_ := Aside0.mk ((by rw [hg]; exact bsz : w.heap.size ≤ gb439)); have n6_ := Aside0.mk ((by rw [hg]; exact Nat.ne_of_lt (blk_lt (g := gb436) (o := .cells #[.string a0_0, .slice A0_1 l0_1.length c0_1, .slice (some ad438) l0_2.length c0_2, .slice A0_3 l0_3.length c0_3, .int .i64 a0_4, .int .i64 a0_5] 26 (0, 0)) bk) : gb436 ≠ gb439)); have n7_ := Aside0.mk ((by rw [hg]; exact Nat.ne_of_gt (blk_lt (g := gb436) (o := .cells #[.string a0_0, .slice A0_1 l0_1.length c0_1, .slice (some ad438) l0_2.length c0_2, .slice A0_3 l0_3.length c0_3, .int .i64 a0_4, .int .i64 a0_5] 26 (0, 0)) bk) : gb439 ≠ gb436)); have n8_ := Aside0.mk ((by rw [hg]; exact Nat.ne_of_lt (blk_lt (g := gb437) (o := .cells #[.slice A1_0 l1_0.length c1_0, .slice A1_1 l1_1.length c1_1] 60 (0, 0)) bk) : gb437 ≠ gb439)); have n9_ := Aside0.mk ((by rw [hg]; exact Nat.ne_of_gt (blk_lt (g := gb437) (o := .cells #[.slice A1_0 l1_0.length c1_0, .slice A1_1 l1_1.length c1_1] 60 (0, 0)) bk) : gb439 ≠ gb437)); clear BK436; clear BK437; clear HB; have BK436 := n0_; have BK437 := n1_; have HB := n2_; have BK439 := n3_; have GW439 := n4_; have GE439 := n5_; have NB436_439 := n6_; have NB439_436 := n7_; have NB437_439 := n8_; have NB439_437 := n9_; clear n0_ n1_ n2_ n3_ n4_ n5_ n6_ n7_ n8_ n9_; clear hb hbox hg; have hnb19 := NB439_436.out; have hnc19 := NB436_439.out; have hnb20 := NB439_437.out; have hnc20 := NB437_439.out; obtain ⟨hcz21_0, hcz21_1, hcz21_2, hfz21_0, hfz21_1, hfz21_2⟩ := cells3 BK439.out) | (go_at_call 21; (with_reducible refine (bluebellref06_After.calls k1 ((rd_T35 l0_2 x7_1).f0) ((rd_T35 l0_2 x7_1).f1) ((rd_T35 l0_2 x7_1).f2) x5_1 t440 _ A14.out).mono ?_); rintro e w22 ⟨rfl, hb⟩; have n0_ := Aside0.mk (blk_below (g := gb436) (o := .cells #[.string a0_0, .slice A0_1 l0_1.length c0_1, .slice (some ad438) l0_2.length c0_2, .slice A0_3 l0_3.length c0_3, .int .i64 a0_4, .int .i64 a0_5] 26 (0, 0)) (by (with_reducible repeat (first | refine blk_drewN ?_ _ | refine blk_drew ?_ | refine blk_alloc ?_ _)); refine blk_far ?_ NB436_439.out _; (with_reducible repeat (first | refine blk_drewN ?_ _ | refine blk_drew ?_ | refine blk_alloc ?_ _)); refine blk_far ?_ NB436_439.out _; (with_reducible repeat (first | refine blk_drewN ?_ _ | refine blk_drew ?_ | refine blk_alloc ?_ _)); refine blk_far ?_ NB436_439.out _; (with_reducible repeat (first | refine blk_drewN ?_ _ | refine blk_drew ?_ | refine blk_alloc ?_ _)); exact BK436.out) hb); have n1_ := Aside0.mk (blk_below (g := gb437) (o := .cells #[.slice A1_0 l1_0.length c1_0, .slice A1_1 l1_1.length c1_1] 60 (0, 0)) (by (with_reducible repeat (first | refine blk_drewN ?_ _ | refine blk_drew ?_ | refine blk_alloc ?_ _)); refine blk_far ?_ NB437_439.out _; (with_reducible repeat (first | refine blk_drewN ?_ _ | refine blk_drew ?_ | refine blk_alloc ?_ _)); refine blk_far ?_ NB437_439.out _; (with_reducible repeat (first | refine blk_drewN ?_ _ | refine blk_drew ?_ | refine blk_alloc ?_ _)); refine blk_far ?_ NB437_439.out _; (with_reducible repeat (first | refine blk_drewN ?_ _ | refine blk_drew ?_ | refine blk_alloc ?_ _)); exact BK437.out) hb); have n2_ := Aside0.mk (blk_below (g := gb439) (o := .cells #[.int .i64 ((rd_T35 l0_2 x7_1).f0), .int .i64 ((rd_T35 l0_2 x7_1).f1), .int .i64 ((rd_T35 l0_2 x7_1).f2)] 35 (0, 0)) (by (with_reducible repeat (first | refine blk_drewN ?_ _ | refine blk_drew ?_ | refine blk_alloc ?_ _)); refine blk_put (cs := #[.int .i64 ((rd_T35 l0_2 x7_1).f0), .int .i64 ((rd_T35 l0_2 x7_1).f1), .int .i64 0]) ?_ 2 _ rfl; (with_reducible repeat (first | refine blk_drewN ?_ _ | refine blk_drew ?_ | refine blk_alloc ?_ _)); refine blk_put (cs := #[.int .i64 ((rd_T35 l0_2 x7_1).f0), .int .i64 0, .int .i64 0]) ?_ 1 _ rfl; (with_reducible repeat (first | refine blk_drewN ?_ _ | refine blk_drew ?_ | refine blk_alloc ?_ _)); refine blk_put (cs := #[.int .i64 0, .int .i64 0, .int .i64 0]) ?_ 0 _ rfl; (with_reducible repeat (first | refine blk_drewN ?_ _ | refine blk_drew ?_ | refine blk_alloc ?_ _)); exact BK439.out) hb); have n3_ := Aside0.mk (bstep hb); clear BK436; clear BK437; clear BK439; clear HB; have BK436 := n0_; have BK437 := n1_; have BK439 := n2_; have HB := n3_; clear n0_ n1_ n2_ n3_; (try clear hb)))
     repeat (go_quiet (first | ((with_reducible refine gate_dst (N := 8) rfl ?_); refine boxev (N := 8) (cs := #[.int .i64 0, .int .i64 0, .int .i64 0]) (t := 35) ?_; intro gb439 hg w18 hbox hb; have n0_ := Aside0.mk (blk_below (g := gb436) (o := .cells #[.string a0_0, .slice A0_1 l0_1.length c0_1, .slice (some ad438) l0_2.length c0_2, .slice A0_3 l0_3.length c0_3, .int .i64 a0_4, .int .i64 a0_5] 26 (0, 0)) bk hb); have n1_ := Aside0.mk (blk_below (g := gb437) (o := .cells #[.slice A1_0 l1_0.length c1_0, .slice A1_1 l1_1.length c1_1] 60 (0, 0)) bk hb); have n2_ := Aside0.mk (bstep hb); have n3_ := Aside0.mk (hbox); have n4_ := Aside0.mk ((by rw [hg]; exact bsz : w.heap.size ≤ gb439)); have n5_ := Aside0.mk ((by rw [hg]; exact bsz : w.heap.size ≤ gb439)); have n6_ := Aside0.mk ((by rw [hg]; exact Nat.ne_of_lt (blk_lt (g := gb436) (o := .cells #[.string a0_0, .slice A0_1 l0_1.length c0_1, .slice (some ad438) l0_2.length c0_2, .slice A0_3 l0_3.length c0_3, .int .i64 a0_4, .int .i64 a0_5] 26 (0, 0)) bk) : gb436 ≠ gb439)); have n7_ := Aside0.mk ((by rw [hg]; exact Nat.ne_of_gt (blk_lt (g := gb436) (o := .cells #[.string a0_0, .slice A0_1 l0_1.length c0_1, .slice (some ad438) l0_2.length c0_2, .slice A0_3 l0_3.length c0_3, .int .i64 a0_4, .int .i64 a0_5] 26 (0, 0)) bk) : gb439 ≠ gb436)); have n8_ := Aside0.mk ((by rw [hg]; exact Nat.ne_of_lt (blk_lt (g := gb437) (o := .cells #[.slice A1_0 l1_0.length c1_0, .slice A1_1 l1_1.length c1_1] 60 (0, 0)) bk) : gb437 ≠ gb439)); have n9_ := Aside0.mk ((by rw [hg]; exact Nat.ne_of_gt (blk_lt (g := gb437) (o := .cells #[.slice A1_0 l1_0.length c1_0, .slice A1_1 l1_1.length c1_1] 60 (0, 0)) bk) : gb439 ≠ gb437)); clear BK436; clear BK437; clear HB; have BK436 := n0_; have BK437 := n1_; have HB := n2_; have BK439 := n3_; have GW439 := n4_; have GE439 := n5_; have NB436_439 := n6_; have NB439_436 := n7_; have NB437_439 := n8_; have NB439_437 := n9_; clear n0_ n1_ n2_ n3_ n4_ n5_ n6_ n7_ n8_ n9_; clear hb hbox hg; have hnb19 := NB439_436.out; have hnc19 := NB436_439.out; have hnb20 := NB439_437.out; have hnc20 := NB437_439.out; obtain ⟨hcz21_0, hcz21_1, hcz21_2, hfz21_0, hfz21_1, hfz21_2⟩ := cells3 BK439.out) | (go_at_call 21; (with_reducible refine (bluebellref06_After.calls k1 ((rd_T35 l0_2 x7_1).f0) ((rd_T35 l0_2 x7_1).f1) ((rd_T35 l0_2 x7_1).f2) x5_1 t440 _ A14.out).mono ?_); rintro e w22 ⟨rfl, hb⟩; have n0_ := Aside0.mk (blk_below (g := gb436) (o := .cells #[.string a0_0, .slice A0_1 l0_1.length c0_1, .slice (some ad438) l0_2.length c0_2, .slice A0_3 l0_3.length c0_3, .int .i64 a0_4, .int .i64 a0_5] 26 (0, 0)) (by (with_reducible repeat (first | refine blk_drewN ?_ _ | refine blk_drew ?_ | refine blk_alloc ?_ _)); refine blk_far ?_ NB436_439.out _; (with_reducible repeat (first | refine blk_drewN ?_ _ | refine blk_drew ?_ | refine blk_alloc ?_ _)); refine blk_far ?_ NB436_439.out _; (with_reducible repeat (first | refine blk_drewN ?_ _ | refine blk_drew ?_ | refine blk_alloc ?_ _)); refine blk_far ?_ NB436_439.out _; (with_reducible repeat (first | refine blk_drewN ?_ _ | refine blk_drew ?_ | refine blk_alloc ?_ _)); exact BK436.out) hb); have n1_ := Aside0.mk (blk_below (g := gb437) (o := .cells #[.slice A1_0 l1_0.length c1_0, .slice A1_1 l1_1.length c1_1] 60 (0, 0)) (by (with_reducible repeat (first | refine blk_drewN ?_ _ | refine blk_drew ?_ | refine blk_alloc ?_ _)); refine blk_far ?_ NB437_439.out _; (with_reducible repeat (first | refine blk_drewN ?_ _ | refine blk_drew ?_ | refine blk_alloc ?_ _)); refine blk_far ?_ NB437_439.out _; (with_reducible repeat (first | refine blk_drewN ?_ _ | refine blk_drew ?_ | refine blk_alloc ?_ _)); refine blk_far ?_ NB437_439.out _; (with_reducible repeat (first | refine blk_drewN ?_ _ | refine blk_drew ?_ | refine blk_alloc ?_ _)); exact BK437.out) hb); have n2_ := Aside0.mk (blk_below (g := gb439) (o := .cells #[.int .i64 ((rd_T35 l0_2 x7_1).f0), .int .i64 ((rd_T35 l0_2 x7_1).f1), .int .i64 ((rd_T35 l0_2 x7_1).f2)] 35 (0, 0)) (by (with_reducible repeat (first | refine blk_drewN ?_ _ | refine blk_drew ?_ | refine blk_alloc ?_ _)); refine blk_put (cs := #[.int .i64 ((rd_T35 l0_2 x7_1).f0), .int .i64 ((rd_T35 l0_2 x7_1).f1), .int .i64 0]) ?_ 2 _ rfl; (with_reducible repeat (first | refine blk_drewN ?_ _ | refine blk_drew ?_ | refine blk_alloc ?_ _)); refine blk_put (cs := #[.int .i64 ((rd_T35 l0_2 x7_1).f0), .int .i64 0, .int .i64 0]) ?_ 1 _ rfl; (with_reducible repeat (first | refine blk_drewN ?_ _ | refine blk_drew ?_ | refine blk_alloc ?_ _)); refine blk_put (cs := #[.int .i64 0, .int .i64 0, .int .i64 0]) ?_ 0 _ rfl; (with_reducible repeat (first | refine blk_drewN ?_ _ | refine blk_drew ?_ | refine blk_alloc ?_ _)); exact BK439.out) hb); have n3_ := Aside0.mk (bstep hb); clear BK436; clear BK437; clear BK439; clear HB; have BK436 := n0_; have BK437 := n1_; have BK439 := n2_; have HB := n3_; clear n0_ n1_ n2_ n3_; (try clear hb); (try clear hb2); (try clear hk); (try clear hi))); go_upto_region 10 with (first | ((with_reducible refine gate_dst (N := 8) rfl ?_); refine boxev (N := 8) (cs := #[.int .i64 0, .int .i64 0, .int .i64 0]) (t := 35) ?_; intro gb439 hg w18 hbox hb; have n0_ := Aside0.mk (blk_below (g := gb436) (o := .cells #[.string a0_0, .slice A0_1 l0_1.length c0_1, .slice (some ad438) l0_2.length c0_2, .slice A0_3 l0_3.length c0_3, .int .i64 a0_4, .int .i64 a0_5] 26 (0, 0)) bk hb); have n1_ := Aside0.mk (blk_below (g := gb437) (o := .cells #[.slice A1_0 l1_0.length c1_0, .slice A1_1 l1_1.length c1_1] 60 (0, 0)) bk hb); have n2_ := Aside0.mk (bstep hb); have n3_ := Aside0.mk (hbox); have n4_ := Aside0.mk ((by rw [hg]; exact bsz : w.heap.size ≤ gb439)); have n5_ := Aside0.mk ((by rw [hg]; exact bsz : w.heap.size ≤ gb439)); have n6_ := Aside0.mk ((by rw [hg]; exact Nat.ne_of_lt (blk_lt (g := gb436) (o := .cells #[.string a0_0, .slice A0_1 l0_1.length c0_1, .slice (some ad438) l0_2.length c0_2, .slice A0_3 l0_3.length c0_3, .int .i64 a0_4, .int .i64 a0_5] 26 (0, 0)) bk) : gb436 ≠ gb439)); have n7_ := Aside0.mk ((by rw [hg]; exact Nat.ne_of_gt (blk_lt (g := gb436) (o := .cells #[.string a0_0, .slice A0_1 l0_1.length c0_1, .slice (some ad438) l0_2.length c0_2, .slice A0_3 l0_3.length c0_3, .int .i64 a0_4, .int .i64 a0_5] 26 (0, 0)) bk) : gb439 ≠ gb436)); have n8_ := Aside0.mk ((by rw [hg]; exact Nat.ne_of_lt (blk_lt (g := gb437) (o := .cells #[.slice A1_0 l1_0.length c1_0, .slice A1_1 l1_1.length c1_1] 60 (0, 0)) bk) : gb437 ≠ gb439)); have n9_ := Aside0.mk ((by rw [hg]; exact Nat.ne_of_gt (blk_lt (g := gb437) (o := .cells #[.slice A1_0 l1_0.length c1_0, .slice A1_1 l1_1.length c1_1] 60 (0, 0)) bk) : gb439 ≠ gb437)); clear BK436; clear BK437; clear HB; have BK436 := n0_; have BK437 := n1_; have HB := n2_; have BK439 := n3_; have GW439 := n4_; have GE439 := n5_; have NB436_439 := n6_; have NB439_436 := n7_; have NB437_439 := n8_; have NB439_437 := n9_; clear n0_ n1_ n2_ n3_ n4_ n5_ n6_ n7_ n8_ n9_; clear hb hbox hg; have hnb19 := NB439_436.out; have hnc19 := NB436_439.out; have hnb20 := NB439_437.out; have hnc20 := NB437_439.out; obtain ⟨hcz21_0, hcz21_1, hcz21_2, hfz21_0, hfz21_1, hfz21_2⟩ := cells3 BK439.out) | (go_at_call 21; (with_reducible refine (bluebellref06_After.calls k1 ((rd_T35 l0_2 x7_1).f0) ((rd_T35 l0_2 x7_1).f1) ((rd_T35 l0_2 x7_1).f2) x5_1 t440 _ A14.out).mono ?_); rintro e w22 ⟨rfl, hb⟩; have n0_ := Aside0.mk (blk_below (g := gb436) (o := .cells #[.string a0_0, .slice A0_1 l0_1.length c0_1, .slice (some ad438) l0_2.length c0_2, .slice A0_3 l0_3.length c0_3, .int .i64 a0_4, .int .i64 a0_5] 26 (0, 0)) (by (with_reducible repeat (first | refine blk_drewN ?_ _ | refine blk_drew ?_ | refine blk_alloc ?_ _)); refine blk_far ?_ NB436_439.out _; (with_reducible repeat (first | refine blk_drewN ?_ _ | refine blk_drew ?_ | refine blk_alloc ?_ _)); refine blk_far ?_ NB436_439.out _; (with_reducible repeat (first | refine blk_drewN ?_ _ | refine blk_drew ?_ | refine blk_alloc ?_ _)); refine blk_far ?_ NB436_439.out _; (with_reducible repeat (first | refine blk_drewN ?_ _ | refine blk_drew ?_ | refine blk_alloc ?_ _)); exact BK436.out) hb); have n1_ := Aside0.mk (blk_below (g := gb437) (o := .cells #[.slice A1_0 l1_0.length c1_0, .slice A1_1 l1_1.length c1_1] 60 (0, 0)) (by (with_reducible repeat (first | refine blk_drewN ?_ _ | refine blk_drew ?_ | refine blk_alloc ?_ _)); refine blk_far ?_ NB437_439.out _; (with_reducible repeat (first | refine blk_drewN ?_ _ | refine blk_drew ?_ | refine blk_alloc ?_ _)); refine blk_far ?_ NB437_439.out _; (with_reducible repeat (first | refine blk_drewN ?_ _ | refine blk_drew ?_ | refine blk_alloc ?_ _)); refine blk_far ?_ NB437_439.out _; (with_reducible repeat (first | refine blk_drewN ?_ _ | refine blk_drew ?_ | refine blk_alloc ?_ _)); exact BK437.out) hb); have n2_ := Aside0.mk (blk_below (g := gb439) (o := .cells #[.int .i64 ((rd_T35 l0_2 x7_1).f0), .int .i64 ((rd_T35 l0_2 x7_1).f1), .int .i64 ((rd_T35 l0_2 x7_1).f2)] 35 (0, 0)) (by (with_reducible repeat (first | refine blk_drewN ?_ _ | refine blk_drew ?_ | refine blk_alloc ?_ _)); refine blk_put (cs := #[.int .i64 ((rd_T35 l0_2 x7_1).f0), .int .i64 ((rd_T35 l0_2 x7_1).f1), .int .i64 0]) ?_ 2 _ rfl; (with_reducible repeat (first | refine blk_drewN ?_ _ | refine blk_drew ?_ | refine blk_alloc ?_ _)); refine blk_put (cs := #[.int .i64 ((rd_T35 l0_2 x7_1).f0), .int .i64 0, .int .i64 0]) ?_ 1 _ rfl; (with_reducible repeat (first | refine blk_drewN ?_ _ | refine blk_drew ?_ | refine blk_alloc ?_ _)); refine blk_put (cs := #[.int .i64 0, .int .i64 0, .int .i64 0]) ?_ 0 _ rfl; (with_reducible repeat (first | refine blk_drewN ?_ _ | refine blk_drew ?_ | refine blk_alloc ?_ _)); exact BK439.out) hb); have n3_ := Aside0.mk (bstep hb); clear BK436; clear BK437; clear BK439; clear HB; have BK436 := n0_; have BK437 := n1_; have BK439 := n2_; have HB := n3_; clear n0_ n1_ n2_ n3_; (try clear hb); (try clear hb2); (try clear hk); (try clear hi))))
     (try simp only [Act.put, List.setIfInBounds_toArray, List.set_cons_zero, List.set_cons_succ])
     go_cut [10] (fun v10 wc => ∃ (kq : Nat) (x10_14 : Bool), v10 = .bool x10_14 ∧ Aside0 (bluebellref06_deep.j1 kq x5_1 x6_1 x7_1 t440 x10_14 a0_0 l0_1 l0_2 l0_3 a0_4 a0_5 l1_0 l1_1 ((rd_T35 l0_2 x7_1).f0) ((rd_T35 l0_2 x7_1).f1) ((rd_T35 l0_2 x7_1).f2) = some r) ∧ Aside0 (kq ≤ k1) ∧ Aside0 (wc.heap[gb436]? = some (.cells #[.string a0_0, (.slice A0_1 l0_1.length c0_1), (.slice (some ad438) l0_2.length c0_2), (.slice A0_3 l0_3.length c0_3), .int .i64 a0_4, .int .i64 a0_5] 26 (0, 0))) ∧ Aside0 (wc.heap[gb437]? = some (.cells #[(.slice A1_0 l1_0.length c1_0), (.slice A1_1 l1_1.length c1_1)] 60 (0, 0))) ∧ Aside0 (wc.heap[gb439]? = some (.cells #[.int .i64 ((rd_T35 l0_2 x7_1).f0), .int .i64 ((rd_T35 l0_2 x7_1).f1), .int .i64 ((rd_T35 l0_2 x7_1).f2)] 35 (0, 0))) ∧ Aside0 (Below w.heap.size w wc))
     case first =>
      have H := HC15.out
      clear HC15
      by_cases c23 : ((rd_T35 l0_2 x7_1).f0) = 18
      ·rw [if_pos c23] at H
       have c23b0 : (((rd_T35 l0_2 x7_1).f0) == 18) = true := beq_iff_eq.mpr c23
       have c23b1 : (((rd_T35 l0_2 x7_1).f0) != 18) = false := bne_eq_false_iff_eq.mpr c23
       clear c23
       (first | rw [c23b0] | (simp only [i64_w, i32_w]; rw [c23b0]) | skip)
       obtain ⟨ji24, hji24⟩ : ∃ j_ : Int, (wrap64 (x7_1 - 1)) = j_ := ⟨_, rfl⟩
       replace H : (if 0 ≤ (ji24) then (if (ji24) < (l0_2.length : Int) then (bluebellref06_deep.j1 k1 x5_1 x6_1 x7_1 t440 (((rd_T35 l0_2 (ji24)).f0) == 19) a0_0 l0_1 l0_2 l0_3 a0_4 a0_5 l1_0 l1_1 ((rd_T35 l0_2 x7_1).f0) ((rd_T35 l0_2 x7_1).f1) ((rd_T35 l0_2 x7_1).f2)) else (none)) else (none)) = some r := by first | (rw [hji24] at H; exact H) | (simp only [hji24] at H ⊢; exact H)
       have hji24w : (IntKind.i64.wrap (x7_1 - 1)) = ji24 := (i64_w _).trans hji24
       by_cases c25 : 0 ≤ (ji24)
       rotate_left
       ·rw [if_neg c25] at H
        exact absurd H (by simp)
       rw [if_pos c25] at H
       have c25b0 : decide (0 ≤ (ji24)) = true := decide_eq_true c25
       clear c25
       by_cases c26 : (ji24) < (l0_2.length : Int)
       rotate_left
       ·rw [if_neg c26] at H
        exact absurd H (by simp)
       rw [if_pos c26] at H
       have c26b0 : decide ((ji24) < (l0_2.length : Int)) = true := decide_eq_true c26
       clear c26
       have H' := Aside0.mk H
       clear H
       have hnb27 := NB439_436.out
       have hnc27 := NB436_439.out
       have hnb28 := NB439_437.out
       have hnc28 := NB437_439.out
       obtain ⟨hcz29_0, hcz29_1, hcz29_2, hfz29_0, hfz29_1, hfz29_2⟩ := cells3 BK439.out
       have hnb30 := NB436_437.out
       have hnc30 := NB437_436.out
       obtain ⟨hcz31_0, hcz31_1, hcz31_2, hcz31_3, hcz31_4, hcz31_5, hfz31_0, hfz31_1, hfz31_2, hfz31_3, hfz31_4, hfz31_5⟩ := cells6 BK436.out
       have p441 : 0 ≤ ((ji24) : Int) := ofd
       have q441 : (ji24) < (l0_2.length : Int) := ofd
       obtain ⟨ad441, e441, hx441_0, hx441_1, hx441_2⟩ := at_T35 HR0_2.out (ji24) p441 q441
       obtain rfl : ad438 = ad441 := (by injection e441)
       replace hx441_0 := (HB.out.cell (World.block_lt_of_cell? w _ hx441_0)).trans hx441_0
       replace hx441_1 := (HB.out.cell (World.block_lt_of_cell? w _ hx441_1)).trans hx441_1
       replace hx441_2 := (HB.out.cell (World.block_lt_of_cell? w _ hx441_2)).trans hx441_2
       replace p441 := eq_true p441
       replace q441 := eq_true q441
       go_wp2
       repeat (go_quiet (fail); try go_wp2)
       (first | go_meet | (refine Met.intro ?_; go_step; (repeat apply Exists.intro); refine ⟨?rel, ?fr_⟩; (case fr_ => first | (simp only [c26b0, c25b0, c23b1, c23b0]; done) | (simp only [c26b0, c25b0, c23b1, c23b0]; rfl) | ((try simp only [c26b0, c25b0, c23b1, c23b0]); (try simp only [hji24]); (try simp only [c26b0, c25b0, c23b1, c23b0]); first | done | rfl))))
       case rel => exact ⟨_, ((((rd_T35 l0_2 (ji24)).f0) == 19)), (by first | rfl | (simp; done) | (simp only [← hji24] <;> (first | rfl | simp)) | (simp [*]; done)), (by first | exact H' | (simp only [hji24]; exact H')), ⟨by have := HK1.out; first | omega | exact Nat.le_refl _⟩, ⟨bk⟩, ⟨bk⟩, ⟨bk⟩, ⟨bw⟩⟩
      ·rw [if_neg c23] at H
       have c23b0 : (((rd_T35 l0_2 x7_1).f0) == 18) = false := beq_eq_false_iff_ne.mpr c23
       have c23b1 : (((rd_T35 l0_2 x7_1).f0) != 18) = true := bne_iff_ne.mpr c23
       (first | rw [c23b0] | (simp only [i64_w, i32_w]; rw [c23b0]) | skip)
       have H' := Aside0.mk H
       clear H
       have hnb32 := NB439_436.out
       have hnc32 := NB436_439.out
       have hnb33 := NB439_437.out
       have hnc33 := NB437_439.out
       obtain ⟨hcz34_0, hcz34_1, hcz34_2, hfz34_0, hfz34_1, hfz34_2⟩ := cells3 BK439.out
       go_wp2
       repeat (go_quiet (fail); try go_wp2)
       (first | go_meet | (refine Met.intro ?_; go_step; (repeat apply Exists.intro); refine ⟨?rel, ?fr_⟩; (case fr_ => first | (simp only [c23b1, c23b0]; done) | (simp only [c23b1, c23b0]; rfl) | (simp only [c23b1, c23b0]; rfl))))
       case rel => exact ⟨_, (false), wrE, H', ⟨by have := HK1.out; first | omega | exact Nat.le_refl _⟩, ⟨bk⟩, ⟨bk⟩, ⟨bk⟩, ⟨bw⟩⟩
     case rest =>
      clear HC15
      clear c5b0 c6b0 c7 c7b0 c7b1 hcz17_0 hcz17_1 hcz17_2 hcz17_3 hcz17_4 hcz17_5 hcz21_0 hcz21_1 hcz21_2 hfz17_0 hfz17_1 hfz17_2 hfz17_3 hfz17_4 hfz17_5 hfz21_0 hfz21_1 hfz21_2 hx438_0 hx438_1 hx438_2 p438 q438
      obtain ⟨kq, x10_14, rfl, HA, HJ14, BK436, BK437, BK439, HB⟩ := hcut
      cases kq with
      | zero => exact absurd HA.out (by simp [bluebellref06_deep.j1])
      | succ kj14 =>
       have H := HA.out
       clear HA
       simp only [bluebellref06_deep.j1] at H
       have HC35 := Aside0.mk H
       clear H
       go_upto_region 11 with (fail)
       repeat (go_quiet (fail); go_upto_region 11 with (fail))
       go_cut [65] (fun v65 wc => ∃ (kq : Nat) (x65_34 : Bool), v65 = .bool x65_34 ∧ Aside0 (bluebellref06_deep.j2 kq x6_1 x7_1 t440 x65_34 a0_0 l0_1 l0_2 l0_3 a0_4 a0_5 l1_0 l1_1 ((rd_T35 l0_2 x7_1).f0) ((rd_T35 l0_2 x7_1).f1) ((rd_T35 l0_2 x7_1).f2) = some r) ∧ Aside0 (kq ≤ kj14) ∧ Aside0 (wc.heap[gb436]? = some (.cells #[.string a0_0, (.slice A0_1 l0_1.length c0_1), (.slice (some ad438) l0_2.length c0_2), (.slice A0_3 l0_3.length c0_3), .int .i64 a0_4, .int .i64 a0_5] 26 (0, 0))) ∧ Aside0 (wc.heap[gb437]? = some (.cells #[(.slice A1_0 l1_0.length c1_0), (.slice A1_1 l1_1.length c1_1)] 60 (0, 0))) ∧ Aside0 (wc.heap[gb439]? = some (.cells #[.int .i64 ((rd_T35 l0_2 x7_1).f0), .int .i64 ((rd_T35 l0_2 x7_1).f1), .int .i64 ((rd_T35 l0_2 x7_1).f2)] 35 (0, 0))) ∧ Aside0 (Below w.heap.size w wc))
       case first =>
        have H := HC35.out
        clear HC35
        replace H := Option.bind_eq_some_iff.mp H
        obtain ⟨t442, A360, H⟩ := H
        replace H : (if (wrap64 (x5_1 - t442)) < 2 then (bluebellref06_deep.j2 kj14 x6_1 x7_1 t440 true a0_0 l0_1 l0_2 l0_3 a0_4 a0_5 l1_0 l1_1 ((rd_T35 l0_2 x7_1).f0) ((rd_T35 l0_2 x7_1).f1) ((rd_T35 l0_2 x7_1).f2)) else ((bluebellref06_in.f t440 2 4000).bind fun t443 => (if t443 = true then (if x10_14 = true then (bluebellref06_deep.j2 kj14 x6_1 x7_1 t440 false a0_0 l0_1 l0_2 l0_3 a0_4 a0_5 l1_0 l1_1 ((rd_T35 l0_2 x7_1).f0) ((rd_T35 l0_2 x7_1).f1) ((rd_T35 l0_2 x7_1).f2)) else ((bluebellref06_local.f kj14 ((rd_T35 l0_2 x7_1).f0) ((rd_T35 l0_2 x7_1).f1) ((rd_T35 l0_2 x7_1).f2) x5_1).bind fun t444 => (bluebellref06_deep.j2 kj14 x6_1 x7_1 t440 (!t444) a0_0 l0_1 l0_2 l0_3 a0_4 a0_5 l1_0 l1_1 ((rd_T35 l0_2 x7_1).f0) ((rd_T35 l0_2 x7_1).f1) ((rd_T35 l0_2 x7_1).f2)))) else (bluebellref06_deep.j2 kj14 x6_1 x7_1 t440 true a0_0 l0_1 l0_2 l0_3 a0_4 a0_5 l1_0 l1_1 ((rd_T35 l0_2 x7_1).f0) ((rd_T35 l0_2 x7_1).f1) ((rd_T35 l0_2 x7_1).f2))))) = some r := H
        have A36 := Aside0.mk A360
        clear A360
        by_cases c37 : (wrap64 (x5_1 - t442)) < 2
        ·rw [if_pos c37] at H
         have c37b0 : decide ((wrap64 (x5_1 - t442)) < 2) = true := decide_eq_true c37
         clear c37
         (first | rw [c37b0] | (simp only [i64_w, i32_w]; rw [c37b0]) | skip)
         have H' := Aside0.mk H
         clear H
         have hnb38 := NB439_436.out
         have hnc38 := NB436_439.out
         have hnb39 := NB439_437.out
         have hnc39 := NB437_439.out
         obtain ⟨hcz40_0, hcz40_1, hcz40_2, hfz40_0, hfz40_1, hfz40_2⟩ := cells3 BK439.out
         go_wp2_with (first | (go_at_call 73; (with_reducible refine (bluebellref06_needs.calls kj14 ((rd_T35 l0_2 x7_1).f0) ((rd_T35 l0_2 x7_1).f1) ((rd_T35 l0_2 x7_1).f2) t442 _ A36.out).mono ?_); rintro e w41 ⟨rfl, hb⟩; have n0_ := Aside0.mk (bkb (g := gb436) hb); have n1_ := Aside0.mk (bkb (g := gb437) hb); have n2_ := Aside0.mk (bkb (g := gb439) hb); have n3_ := Aside0.mk (bstep hb); clear BK436; clear BK437; clear BK439; clear HB; have BK436 := n0_; have BK437 := n1_; have BK439 := n2_; have HB := n3_; clear n0_ n1_ n2_ n3_; (try clear hb)))
         repeat (go_quiet (first | (go_at_call 73; (with_reducible refine (bluebellref06_needs.calls kj14 ((rd_T35 l0_2 x7_1).f0) ((rd_T35 l0_2 x7_1).f1) ((rd_T35 l0_2 x7_1).f2) t442 _ A36.out).mono ?_); rintro e w41 ⟨rfl, hb⟩; have n0_ := Aside0.mk (bkb (g := gb436) hb); have n1_ := Aside0.mk (bkb (g := gb437) hb); have n2_ := Aside0.mk (bkb (g := gb439) hb); have n3_ := Aside0.mk (bstep hb); clear BK436; clear BK437; clear BK439; clear HB; have BK436 := n0_; have BK437 := n1_; have BK439 := n2_; have HB := n3_; clear n0_ n1_ n2_ n3_; (try clear hb); (try clear hb2); (try clear hk); (try clear hi))); try go_wp2_with (first | (go_at_call 73; (with_reducible refine (bluebellref06_needs.calls kj14 ((rd_T35 l0_2 x7_1).f0) ((rd_T35 l0_2 x7_1).f1) ((rd_T35 l0_2 x7_1).f2) t442 _ A36.out).mono ?_); rintro e w41 ⟨rfl, hb⟩; have n0_ := Aside0.mk (bkb (g := gb436) hb); have n1_ := Aside0.mk (bkb (g := gb437) hb); have n2_ := Aside0.mk (bkb (g := gb439) hb); have n3_ := Aside0.mk (bstep hb); clear BK436; clear BK437; clear BK439; clear HB; have BK436 := n0_; have BK437 := n1_; have BK439 := n2_; have HB := n3_; clear n0_ n1_ n2_ n3_; (try clear hb); (try clear hb2); (try clear hk); (try clear hi))))
         (first | go_meet | (refine Met.intro ?_; go_step; (repeat apply Exists.intro); refine ⟨?rel, ?fr_⟩; (case fr_ => first | (simp only [c37b0]; done) | (simp only [c37b0]; rfl) | (simp only [c37b0]; rfl))))
         case rel => exact ⟨_, (true), wrE, H', ⟨by have := HK1.out; have := HJ14.out; first | omega | exact Nat.le_refl _⟩, ⟨bk⟩, ⟨bk⟩, ⟨bk⟩, ⟨bw⟩⟩
        ·rw [if_neg c37] at H
         have c37b0 : decide ((wrap64 (x5_1 - t442)) < 2) = false := decide_eq_false c37
         clear c37
         (first | rw [c37b0] | (simp only [i64_w, i32_w]; rw [c37b0]) | skip)
         replace H := Option.bind_eq_some_iff.mp H
         obtain ⟨t443, A420, H⟩ := H
         replace H : (if t443 = true then (if x10_14 = true then (bluebellref06_deep.j2 kj14 x6_1 x7_1 t440 false a0_0 l0_1 l0_2 l0_3 a0_4 a0_5 l1_0 l1_1 ((rd_T35 l0_2 x7_1).f0) ((rd_T35 l0_2 x7_1).f1) ((rd_T35 l0_2 x7_1).f2)) else ((bluebellref06_local.f kj14 ((rd_T35 l0_2 x7_1).f0) ((rd_T35 l0_2 x7_1).f1) ((rd_T35 l0_2 x7_1).f2) x5_1).bind fun t444 => (bluebellref06_deep.j2 kj14 x6_1 x7_1 t440 (!t444) a0_0 l0_1 l0_2 l0_3 a0_4 a0_5 l1_0 l1_1 ((rd_T35 l0_2 x7_1).f0) ((rd_T35 l0_2 x7_1).f1) ((rd_T35 l0_2 x7_1).f2)))) else (bluebellref06_deep.j2 kj14 x6_1 x7_1 t440 true a0_0 l0_1 l0_2 l0_3 a0_4 a0_5 l1_0 l1_1 ((rd_T35 l0_2 x7_1).f0) ((rd_T35 l0_2 x7_1).f1) ((rd_T35 l0_2 x7_1).f2))) = some r := H
         have A42 := Aside0.mk A420
         clear A420
         by_cases c43 : t443 = true
         ·subst c43
          have H1 : (if x10_14 = true then (bluebellref06_deep.j2 kj14 x6_1 x7_1 t440 false a0_0 l0_1 l0_2 l0_3 a0_4 a0_5 l1_0 l1_1 ((rd_T35 l0_2 x7_1).f0) ((rd_T35 l0_2 x7_1).f1) ((rd_T35 l0_2 x7_1).f2)) else ((bluebellref06_local.f kj14 ((rd_T35 l0_2 x7_1).f0) ((rd_T35 l0_2 x7_1).f1) ((rd_T35 l0_2 x7_1).f2) x5_1).bind fun t444 => (bluebellref06_deep.j2 kj14 x6_1 x7_1 t440 (!t444) a0_0 l0_1 l0_2 l0_3 a0_4 a0_5 l1_0 l1_1 ((rd_T35 l0_2 x7_1).f0) ((rd_T35 l0_2 x7_1).f1) ((rd_T35 l0_2 x7_1).f2)))) = some r := by rw [if_pos rfl] at H; exact H
          clear H
          have H := H1
          clear H1
          by_cases c44 : x10_14 = true
          ·subst c44
           have H1 : (bluebellref06_deep.j2 kj14 x6_1 x7_1 t440 false a0_0 l0_1 l0_2 l0_3 a0_4 a0_5 l1_0 l1_1 ((rd_T35 l0_2 x7_1).f0) ((rd_T35 l0_2 x7_1).f1) ((rd_T35 l0_2 x7_1).f2)) = some r := by rw [if_pos rfl] at H; exact H
           clear H
           have H := H1
           clear H1
           have H' := Aside0.mk H
           clear H
           have hnb45 := NB439_436.out
           have hnc45 := NB436_439.out
           have hnb46 := NB439_437.out
           have hnc46 := NB437_439.out
           obtain ⟨hcz47_0, hcz47_1, hcz47_2, hfz47_0, hfz47_1, hfz47_2⟩ := cells3 BK439.out
           go_wp2_with (first | (go_at_call 73; (with_reducible refine (bluebellref06_needs.calls kj14 ((rd_T35 l0_2 x7_1).f0) ((rd_T35 l0_2 x7_1).f1) ((rd_T35 l0_2 x7_1).f2) t442 _ A36.out).mono ?_); rintro e w48 ⟨rfl, hb⟩; have n0_ := Aside0.mk (bkb (g := gb436) hb); have n1_ := Aside0.mk (bkb (g := gb437) hb); have n2_ := Aside0.mk (bkb (g := gb439) hb); have n3_ := Aside0.mk (bstep hb); clear BK436; clear BK437; clear BK439; clear HB; have BK436 := n0_; have BK437 := n1_; have BK439 := n2_; have HB := n3_; clear n0_ n1_ n2_ n3_; (try clear hb)) | (go_at_call 71; (with_reducible refine (bluebellref06_in.calls t440 2 4000 true _ A42.out).mono ?_); rintro e w' ⟨rfl, ⟨nd, rfl⟩⟩; (try first | exact ⟨rfl, _, World.drewN_drewN _ _ _⟩ | exact ⟨rfl, _, Eq.trans (World.drewN_drewN _ _ _) (congrArg (World.drewN _) (Nat.add_assoc _ _ _))⟩)))
           repeat (go_quiet (first | (go_at_call 73; (with_reducible refine (bluebellref06_needs.calls kj14 ((rd_T35 l0_2 x7_1).f0) ((rd_T35 l0_2 x7_1).f1) ((rd_T35 l0_2 x7_1).f2) t442 _ A36.out).mono ?_); rintro e w48 ⟨rfl, hb⟩; have n0_ := Aside0.mk (bkb (g := gb436) hb); have n1_ := Aside0.mk (bkb (g := gb437) hb); have n2_ := Aside0.mk (bkb (g := gb439) hb); have n3_ := Aside0.mk (bstep hb); clear BK436; clear BK437; clear BK439; clear HB; have BK436 := n0_; have BK437 := n1_; have BK439 := n2_; have HB := n3_; clear n0_ n1_ n2_ n3_; (try clear hb); (try clear hb2); (try clear hk); (try clear hi)) | (go_at_call 71; (with_reducible refine (bluebellref06_in.calls t440 2 4000 true _ A42.out).mono ?_); rintro e w' ⟨rfl, ⟨nd, rfl⟩⟩; (try first | exact ⟨rfl, _, World.drewN_drewN _ _ _⟩ | exact ⟨rfl, _, Eq.trans (World.drewN_drewN _ _ _) (congrArg (World.drewN _) (Nat.add_assoc _ _ _))⟩))); try go_wp2_with (first | (go_at_call 73; (with_reducible refine (bluebellref06_needs.calls kj14 ((rd_T35 l0_2 x7_1).f0) ((rd_T35 l0_2 x7_1).f1) ((rd_T35 l0_2 x7_1).f2) t442 _ A36.out).mono ?_); rintro e w48 ⟨rfl, hb⟩; have n0_ := Aside0.mk (bkb (g := gb436) hb); have n1_ := Aside0.mk (bkb (g := gb437) hb); have n2_ := Aside0.mk (bkb (g := gb439) hb); have n3_ := Aside0.mk (bstep hb); clear BK436; clear BK437; clear BK439; clear HB; have BK436 := n0_; have BK437 := n1_; have BK439 := n2_; have HB := n3_; clear n0_ n1_ n2_ n3_; (try clear hb); (try clear hb2); (try clear hk); (try clear hi)) | (go_at_call 71; (with_reducible refine (bluebellref06_in.calls t440 2 4000 true _ A42.out).mono ?_); rintro e w' ⟨rfl, ⟨nd, rfl⟩⟩; (try first | exact ⟨rfl, _, World.drewN_drewN _ _ _⟩ | exact ⟨rfl, _, Eq.trans (World.drewN_drewN _ _ _) (congrArg (World.drewN _) (Nat.add_assoc _ _ _))⟩))))
           (first | go_meet | (refine Met.intro ?_; go_step; (repeat apply Exists.intro); refine ⟨?rel, ?fr_⟩; (case fr_ => first | (simp only [c37b0]; done) | (simp only [c37b0]; rfl) | (simp only [c37b0]; rfl))))
           case rel => exact ⟨_, (false), wrE, H', ⟨by have := HK1.out; have := HJ14.out; first | omega | exact Nat.le_refl _⟩, ⟨bk⟩, ⟨bk⟩, ⟨bk⟩, ⟨bw⟩⟩
          ·replace c44 := Bool.eq_false_iff.mpr c44
           subst c44
           have H1 : ((bluebellref06_local.f kj14 ((rd_T35 l0_2 x7_1).f0) ((rd_T35 l0_2 x7_1).f1) ((rd_T35 l0_2 x7_1).f2) x5_1).bind fun t444 => (bluebellref06_deep.j2 kj14 x6_1 x7_1 t440 (!t444) a0_0 l0_1 l0_2 l0_3 a0_4 a0_5 l1_0 l1_1 ((rd_T35 l0_2 x7_1).f0) ((rd_T35 l0_2 x7_1).f1) ((rd_T35 l0_2 x7_1).f2))) = some r := by rw [if_neg (show ¬ (false = true) by decide)] at H; exact H
           clear H
           have H := H1
           clear H1
           replace H := Option.bind_eq_some_iff.mp H
           obtain ⟨t444, A490, H⟩ := H
           replace H : (bluebellref06_deep.j2 kj14 x6_1 x7_1 t440 (!t444) a0_0 l0_1 l0_2 l0_3 a0_4 a0_5 l1_0 l1_1 ((rd_T35 l0_2 x7_1).f0) ((rd_T35 l0_2 x7_1).f1) ((rd_T35 l0_2 x7_1).f2)) = some r := H
           have A49 := Aside0.mk A490
           clear A490
           have H' := Aside0.mk H
           clear H
           have hnb50 := NB439_436.out
           have hnc50 := NB436_439.out
           have hnb51 := NB439_437.out
           have hnc51 := NB437_439.out
           obtain ⟨hcz52_0, hcz52_1, hcz52_2, hfz52_0, hfz52_1, hfz52_2⟩ := cells3 BK439.out
           go_wp2_with (first | (go_at_call 73; (with_reducible refine (bluebellref06_needs.calls kj14 ((rd_T35 l0_2 x7_1).f0) ((rd_T35 l0_2 x7_1).f1) ((rd_T35 l0_2 x7_1).f2) t442 _ A36.out).mono ?_); rintro e w53 ⟨rfl, hb⟩; have n0_ := Aside0.mk (bkb (g := gb436) hb); have n1_ := Aside0.mk (bkb (g := gb437) hb); have n2_ := Aside0.mk (bkb (g := gb439) hb); have n3_ := Aside0.mk (bstep hb); clear BK436; clear BK437; clear BK439; clear HB; have BK436 := n0_; have BK437 := n1_; have BK439 := n2_; have HB := n3_; clear n0_ n1_ n2_ n3_; (try clear hb)) | (go_at_call 71; (with_reducible refine (bluebellref06_in.calls t440 2 4000 true _ A42.out).mono ?_); rintro e w' ⟨rfl, ⟨nd, rfl⟩⟩; (try first | exact ⟨rfl, _, World.drewN_drewN _ _ _⟩ | exact ⟨rfl, _, Eq.trans (World.drewN_drewN _ _ _) (congrArg (World.drewN _) (Nat.add_assoc _ _ _))⟩); obtain ⟨hcz54_0, hcz54_1, hcz54_2, hfz54_0, hfz54_1, hfz54_2⟩ := cells3 BK439.out) | (go_at_call 74; (with_reducible refine (bluebellref06_local.calls kj14 ((rd_T35 l0_2 x7_1).f0) ((rd_T35 l0_2 x7_1).f1) ((rd_T35 l0_2 x7_1).f2) x5_1 t444 _ A49.out).mono ?_); rintro e w55 ⟨rfl, hb⟩; have n0_ := Aside0.mk (bkb (g := gb436) hb); have n1_ := Aside0.mk (bkb (g := gb437) hb); have n2_ := Aside0.mk (bkb (g := gb439) hb); have n3_ := Aside0.mk (bstep hb); clear BK436; clear BK437; clear BK439; clear HB; have BK436 := n0_; have BK437 := n1_; have BK439 := n2_; have HB := n3_; clear n0_ n1_ n2_ n3_; (try clear hb)))
           repeat (go_quiet (first | (go_at_call 73; (with_reducible refine (bluebellref06_needs.calls kj14 ((rd_T35 l0_2 x7_1).f0) ((rd_T35 l0_2 x7_1).f1) ((rd_T35 l0_2 x7_1).f2) t442 _ A36.out).mono ?_); rintro e w53 ⟨rfl, hb⟩; have n0_ := Aside0.mk (bkb (g := gb436) hb); have n1_ := Aside0.mk (bkb (g := gb437) hb); have n2_ := Aside0.mk (bkb (g := gb439) hb); have n3_ := Aside0.mk (bstep hb); clear BK436; clear BK437; clear BK439; clear HB; have BK436 := n0_; have BK437 := n1_; have BK439 := n2_; have HB := n3_; clear n0_ n1_ n2_ n3_; (try clear hb); (try clear hb2); (try clear hk); (try clear hi)) | (go_at_call 71; (with_reducible refine (bluebellref06_in.calls t440 2 4000 true _ A42.out).mono ?_); rintro e w' ⟨rfl, ⟨nd, rfl⟩⟩; (try first | exact ⟨rfl, _, World.drewN_drewN _ _ _⟩ | exact ⟨rfl, _, Eq.trans (World.drewN_drewN _ _ _) (congrArg (World.drewN _) (Nat.add_assoc _ _ _))⟩); obtain ⟨hcz54_0, hcz54_1, hcz54_2, hfz54_0, hfz54_1, hfz54_2⟩ := cells3 BK439.out) | (go_at_call 74; (with_reducible refine (bluebellref06_local.calls kj14 ((rd_T35 l0_2 x7_1).f0) ((rd_T35 l0_2 x7_1).f1) ((rd_T35 l0_2 x7_1).f2) x5_1 t444 _ A49.out).mono ?_); rintro e w55 ⟨rfl, hb⟩; have n0_ := Aside0.mk (bkb (g := gb436) hb); have n1_ := Aside0.mk (bkb (g := gb437) hb); have n2_ := Aside0.mk (bkb (g := gb439) hb); have n3_ := Aside0.mk (bstep hb); clear BK436; clear BK437; clear BK439; clear HB; have BK436 := n0_; have BK437 := n1_; have BK439 := n2_; have HB := n3_; clear n0_ n1_ n2_ n3_; (try clear hb); (try clear hb2); (try clear hk); (try clear hi))); try go_wp2_with (first | (go_at_call 73; (with_reducible refine (bluebellref06_needs.calls kj14 ((rd_T35 l0_2 x7_1).f0) ((rd_T35 l0_2 x7_1).f1) ((rd_T35 l0_2 x7_1).f2) t442 _ A36.out).mono ?_); rintro e w53 ⟨rfl, hb⟩; have n0_ := Aside0.mk (bkb (g := gb436) hb); have n1_ := Aside0.mk (bkb (g := gb437) hb); have n2_ := Aside0.mk (bkb (g := gb439) hb); have n3_ := Aside0.mk (bstep hb); clear BK436; clear BK437; clear BK439; clear HB; have BK436 := n0_; have BK437 := n1_; have BK439 := n2_; have HB := n3_; clear n0_ n1_ n2_ n3_; (try clear hb); (try clear hb2); (try clear hk); (try clear hi)) | (go_at_call 71; (with_reducible refine (bluebellref06_in.calls t440 2 4000 true _ A42.out).mono ?_); rintro e w' ⟨rfl, ⟨nd, rfl⟩⟩; (try first | exact ⟨rfl, _, World.drewN_drewN _ _ _⟩ | exact ⟨rfl, _, Eq.trans (World.drewN_drewN _ _ _) (congrArg (World.drewN _) (Nat.add_assoc _ _ _))⟩); obtain ⟨hcz54_0, hcz54_1, hcz54_2, hfz54_0, hfz54_1, hfz54_2⟩ := cells3 BK439.out) | (go_at_call 74; (with_reducible refine (bluebellref06_local.calls kj14 ((rd_T35 l0_2 x7_1).f0) ((rd_T35 l0_2 x7_1).f1) ((rd_T35 l0_2 x7_1).f2) x5_1 t444 _ A49.out).mono ?_); rintro e w55 ⟨rfl, hb⟩; have n0_ := Aside0.mk (bkb (g := gb436) hb); have n1_ := Aside0.mk (bkb (g := gb437) hb); have n2_ := Aside0.mk (bkb (g := gb439) hb); have n3_ := Aside0.mk (bstep hb); clear BK436; clear BK437; clear BK439; clear HB; have BK436 := n0_; have BK437 := n1_; have BK439 := n2_; have HB := n3_; clear n0_ n1_ n2_ n3_; (try clear hb); (try clear hb2); (try clear hk); (try clear hi))))
           (first | go_meet | (refine Met.intro ?_; go_step; (repeat apply Exists.intro); refine ⟨?rel, ?fr_⟩; (case fr_ => first | (simp only [c37b0]; done) | (simp only [c37b0]; rfl) | (simp only [c37b0]; rfl))))
           case rel => exact ⟨_, (!t444), wrE, H', ⟨by have := HK1.out; have := HJ14.out; first | omega | exact Nat.le_refl _⟩, ⟨bk⟩, ⟨bk⟩, ⟨bk⟩, ⟨bw⟩⟩
         ·replace c43 := Bool.eq_false_iff.mpr c43
          subst c43
          have H1 : (bluebellref06_deep.j2 kj14 x6_1 x7_1 t440 true a0_0 l0_1 l0_2 l0_3 a0_4 a0_5 l1_0 l1_1 ((rd_T35 l0_2 x7_1).f0) ((rd_T35 l0_2 x7_1).f1) ((rd_T35 l0_2 x7_1).f2)) = some r := by rw [if_neg (show ¬ (false = true) by decide)] at H; exact H
          clear H
          have H := H1
          clear H1
          have H' := Aside0.mk H
          clear H
          have hnb56 := NB439_436.out
          have hnc56 := NB436_439.out
          have hnb57 := NB439_437.out
          have hnc57 := NB437_439.out
          obtain ⟨hcz58_0, hcz58_1, hcz58_2, hfz58_0, hfz58_1, hfz58_2⟩ := cells3 BK439.out
          go_wp2_with (first | (go_at_call 73; (with_reducible refine (bluebellref06_needs.calls kj14 ((rd_T35 l0_2 x7_1).f0) ((rd_T35 l0_2 x7_1).f1) ((rd_T35 l0_2 x7_1).f2) t442 _ A36.out).mono ?_); rintro e w59 ⟨rfl, hb⟩; have n0_ := Aside0.mk (bkb (g := gb436) hb); have n1_ := Aside0.mk (bkb (g := gb437) hb); have n2_ := Aside0.mk (bkb (g := gb439) hb); have n3_ := Aside0.mk (bstep hb); clear BK436; clear BK437; clear BK439; clear HB; have BK436 := n0_; have BK437 := n1_; have BK439 := n2_; have HB := n3_; clear n0_ n1_ n2_ n3_; (try clear hb)) | (go_at_call 71; (with_reducible refine (bluebellref06_in.calls t440 2 4000 false _ A42.out).mono ?_); rintro e w' ⟨rfl, ⟨nd, rfl⟩⟩; (try first | exact ⟨rfl, _, World.drewN_drewN _ _ _⟩ | exact ⟨rfl, _, Eq.trans (World.drewN_drewN _ _ _) (congrArg (World.drewN _) (Nat.add_assoc _ _ _))⟩)))
          repeat (go_quiet (first | (go_at_call 73; (with_reducible refine (bluebellref06_needs.calls kj14 ((rd_T35 l0_2 x7_1).f0) ((rd_T35 l0_2 x7_1).f1) ((rd_T35 l0_2 x7_1).f2) t442 _ A36.out).mono ?_); rintro e w59 ⟨rfl, hb⟩; have n0_ := Aside0.mk (bkb (g := gb436) hb); have n1_ := Aside0.mk (bkb (g := gb437) hb); have n2_ := Aside0.mk (bkb (g := gb439) hb); have n3_ := Aside0.mk (bstep hb); clear BK436; clear BK437; clear BK439; clear HB; have BK436 := n0_; have BK437 := n1_; have BK439 := n2_; have HB := n3_; clear n0_ n1_ n2_ n3_; (try clear hb); (try clear hb2); (try clear hk); (try clear hi)) | (go_at_call 71; (with_reducible refine (bluebellref06_in.calls t440 2 4000 false _ A42.out).mono ?_); rintro e w' ⟨rfl, ⟨nd, rfl⟩⟩; (try first | exact ⟨rfl, _, World.drewN_drewN _ _ _⟩ | exact ⟨rfl, _, Eq.trans (World.drewN_drewN _ _ _) (congrArg (World.drewN _) (Nat.add_assoc _ _ _))⟩))); try go_wp2_with (first | (go_at_call 73; (with_reducible refine (bluebellref06_needs.calls kj14 ((rd_T35 l0_2 x7_1).f0) ((rd_T35 l0_2 x7_1).f1) ((rd_T35 l0_2 x7_1).f2) t442 _ A36.out).mono ?_); rintro e w59 ⟨rfl, hb⟩; have n0_ := Aside0.mk (bkb (g := gb436) hb); have n1_ := Aside0.mk (bkb (g := gb437) hb); have n2_ := Aside0.mk (bkb (g := gb439) hb); have n3_ := Aside0.mk (bstep hb); clear BK436; clear BK437; clear BK439; clear HB; have BK436 := n0_; have BK437 := n1_; have BK439 := n2_; have HB := n3_; clear n0_ n1_ n2_ n3_; (try clear hb); (try clear hb2); (try clear hk); (try clear hi)) | (go_at_call 71; (with_reducible refine (bluebellref06_in.calls t440 2 4000 false _ A42.out).mono ?_); rintro e w' ⟨rfl, ⟨nd, rfl⟩⟩; (try first | exact ⟨rfl, _, World.drewN_drewN _ _ _⟩ | exact ⟨rfl, _, Eq.trans (World.drewN_drewN _ _ _) (congrArg (World.drewN _) (Nat.add_assoc _ _ _))⟩))))
          (first | go_meet | (refine Met.intro ?_; go_step; (repeat apply Exists.intro); refine ⟨?rel, ?fr_⟩; (case fr_ => first | (simp only [c37b0]; done) | (simp only [c37b0]; rfl) | (simp only [c37b0]; rfl))))
          case rel => exact ⟨_, (true), wrE, H', ⟨by have := HK1.out; have := HJ14.out; first | omega | exact Nat.le_refl _⟩, ⟨bk⟩, ⟨bk⟩, ⟨bk⟩, ⟨bw⟩⟩
       case rest =>
        clear HC35
        obtain ⟨kq, x65_34, rfl, HA, HJ34, BK436, BK437, BK439, HB⟩ := hcut
        cases kq with
        | zero => exact absurd HA.out (by simp [bluebellref06_deep.j2])
        | succ kj34 =>
         have H := HA.out
         clear HA
         simp only [bluebellref06_deep.j2] at H
         by_cases c60 : x65_34 = true
         ·subst c60
          have H1 : (some false) = some r := by rw [if_pos rfl] at H; exact H
          clear H
          have H := H1
          clear H1
          obtain rfl := Option.some.inj H
          go_wp2
          repeat (go_quiet (fail); try go_wp2)
          go_ret
          exact ⟨erE, bw⟩
         ·replace c60 := Bool.eq_false_iff.mpr c60
          subst c60
          have H1 : (if ((rd_T35 l0_2 x7_1).f0) = 28 then (bluebellref06_deep.j3 kj34 x6_1 x7_1 t440 x6_1 a0_0 l0_1 l0_2 l0_3 a0_4 a0_5 l1_0 l1_1 ((rd_T35 l0_2 x7_1).f0) ((rd_T35 l0_2 x7_1).f1) ((rd_T35 l0_2 x7_1).f2)) else (bluebellref06_deep.j3 kj34 x6_1 x7_1 t440 false a0_0 l0_1 l0_2 l0_3 a0_4 a0_5 l1_0 l1_1 ((rd_T35 l0_2 x7_1).f0) ((rd_T35 l0_2 x7_1).f1) ((rd_T35 l0_2 x7_1).f2))) = some r := by rw [if_neg (show ¬ (false = true) by decide)] at H; exact H
          clear H
          have H := H1
          clear H1
          have HC61 := Aside0.mk H
          clear H
          go_upto_region 13 with (fail)
          repeat (go_quiet (fail); go_upto_region 13 with (fail))
          go_cut [71] (fun v71 wc => ∃ (kq : Nat) (x71_60 : Bool), v71 = .bool x71_60 ∧ Aside0 (bluebellref06_deep.j3 kq x6_1 x7_1 t440 x71_60 a0_0 l0_1 l0_2 l0_3 a0_4 a0_5 l1_0 l1_1 ((rd_T35 l0_2 x7_1).f0) ((rd_T35 l0_2 x7_1).f1) ((rd_T35 l0_2 x7_1).f2) = some r) ∧ Aside0 (kq ≤ kj34) ∧ Aside0 (wc.heap[gb436]? = some (.cells #[.string a0_0, (.slice A0_1 l0_1.length c0_1), (.slice (some ad438) l0_2.length c0_2), (.slice A0_3 l0_3.length c0_3), .int .i64 a0_4, .int .i64 a0_5] 26 (0, 0))) ∧ Aside0 (wc.heap[gb437]? = some (.cells #[(.slice A1_0 l1_0.length c1_0), (.slice A1_1 l1_1.length c1_1)] 60 (0, 0))) ∧ Aside0 (wc.heap[gb439]? = some (.cells #[.int .i64 ((rd_T35 l0_2 x7_1).f0), .int .i64 ((rd_T35 l0_2 x7_1).f1), .int .i64 ((rd_T35 l0_2 x7_1).f2)] 35 (0, 0))) ∧ Aside0 (Below w.heap.size w wc))
          case first =>
           have H := HC61.out
           clear HC61
           by_cases c62 : ((rd_T35 l0_2 x7_1).f0) = 28
           ·rw [if_pos c62] at H
            have c62b0 : (((rd_T35 l0_2 x7_1).f0) == 28) = true := beq_iff_eq.mpr c62
            have c62b1 : (((rd_T35 l0_2 x7_1).f0) != 28) = false := bne_eq_false_iff_eq.mpr c62
            clear c62
            (first | rw [c62b0] | (simp only [i64_w, i32_w]; rw [c62b0]) | skip)
            have H' := Aside0.mk H
            clear H
            have hnb63 := NB439_436.out
            have hnc63 := NB436_439.out
            have hnb64 := NB439_437.out
            have hnc64 := NB437_439.out
            obtain ⟨hcz65_0, hcz65_1, hcz65_2, hfz65_0, hfz65_1, hfz65_2⟩ := cells3 BK439.out
            go_wp2
            repeat (go_quiet (fail); try go_wp2)
            (first | go_meet | (refine Met.intro ?_; go_step; (repeat apply Exists.intro); refine ⟨?rel, ?fr_⟩; (case fr_ => first | (simp only [c62b1, c62b0]; done) | (simp only [c62b1, c62b0]; rfl) | (simp only [c62b1, c62b0]; rfl))))
            case rel => exact ⟨_, (x6_1), wrE, H', ⟨by have := HK1.out; have := HJ14.out; have := HJ34.out; first | omega | exact Nat.le_refl _⟩, ⟨bk⟩, ⟨bk⟩, ⟨bk⟩, ⟨bw⟩⟩
           ·rw [if_neg c62] at H
            have c62b0 : (((rd_T35 l0_2 x7_1).f0) == 28) = false := beq_eq_false_iff_ne.mpr c62
            have c62b1 : (((rd_T35 l0_2 x7_1).f0) != 28) = true := bne_iff_ne.mpr c62
            (first | rw [c62b0] | (simp only [i64_w, i32_w]; rw [c62b0]) | skip)
            have H' := Aside0.mk H
            clear H
            have hnb66 := NB439_436.out
            have hnc66 := NB436_439.out
            have hnb67 := NB439_437.out
            have hnc67 := NB437_439.out
            obtain ⟨hcz68_0, hcz68_1, hcz68_2, hfz68_0, hfz68_1, hfz68_2⟩ := cells3 BK439.out
            go_wp2
            repeat (go_quiet (fail); try go_wp2)
            (first | go_meet | (refine Met.intro ?_; go_step; (repeat apply Exists.intro); refine ⟨?rel, ?fr_⟩; (case fr_ => first | (simp only [c62b1, c62b0]; done) | (simp only [c62b1, c62b0]; rfl) | (simp only [c62b1, c62b0]; rfl))))
            case rel => exact ⟨_, (false), wrE, H', ⟨by have := HK1.out; have := HJ14.out; have := HJ34.out; first | omega | exact Nat.le_refl _⟩, ⟨bk⟩, ⟨bk⟩, ⟨bk⟩, ⟨bw⟩⟩
          case rest =>
           clear HC61
           obtain ⟨kq, x71_60, rfl, HA, HJ60, BK436, BK437, BK439, HB⟩ := hcut
           cases kq with
           | zero => exact absurd HA.out (by simp [bluebellref06_deep.j3])
           | succ kj60 =>
            have H := HA.out
            clear HA
            simp only [bluebellref06_deep.j3] at H
            by_cases c69 : x71_60 = true
            ·subst c69
             have H1 : (some false) = some r := by rw [if_pos rfl] at H; exact H
             clear H
             have H := H1
             clear H1
             obtain rfl := Option.some.inj H
             go_wp2
             repeat (go_quiet (fail); try go_wp2)
             go_ret
             exact ⟨erE, bw⟩
            ·replace c69 := Bool.eq_false_iff.mpr c69
             subst c69
             have H1 : ((bluebellref06_Label.f kj60 ((rd_T35 l0_2 x7_1).f0) ((rd_T35 l0_2 x7_1).f1) ((rd_T35 l0_2 x7_1).f2)).bind fun t445 => (if t445 > 0 then (if 0 ≤ t445 then (if t445 < (l1_0.length : Int) then ((bluebellref06_lands.f kj60 l0_2 (rd l1_0 t445)).bind fun t447 => (bluebellref06_deep.j4 kj60 x6_1 x7_1 t440 (t447 != (((rd_T35 l0_2 x7_1).f0) == 27)) a0_0 l0_1 l0_2 l0_3 a0_4 a0_5 l1_0 l1_1 ((rd_T35 l0_2 x7_1).f0) ((rd_T35 l0_2 x7_1).f1) ((rd_T35 l0_2 x7_1).f2))) else (none)) else (none)) else (bluebellref06_deep.j4 kj60 x6_1 x7_1 t440 false a0_0 l0_1 l0_2 l0_3 a0_4 a0_5 l1_0 l1_1 ((rd_T35 l0_2 x7_1).f0) ((rd_T35 l0_2 x7_1).f1) ((rd_T35 l0_2 x7_1).f2)))) = some r := by rw [if_neg (show ¬ (false = true) by decide)] at H; exact H
             clear H
             have H := H1
             clear H1
             replace H := Option.bind_eq_some_iff.mp H
             obtain ⟨t445, A700, H⟩ := H
             replace H : (if t445 > 0 then (if 0 ≤ t445 then (if t445 < (l1_0.length : Int) then ((bluebellref06_lands.f kj60 l0_2 (rd l1_0 t445)).bind fun t447 => (bluebellref06_deep.j4 kj60 x6_1 x7_1 t440 (t447 != (((rd_T35 l0_2 x7_1).f0) == 27)) a0_0 l0_1 l0_2 l0_3 a0_4 a0_5 l1_0 l1_1 ((rd_T35 l0_2 x7_1).f0) ((rd_T35 l0_2 x7_1).f1) ((rd_T35 l0_2 x7_1).f2))) else (none)) else (none)) else (bluebellref06_deep.j4 kj60 x6_1 x7_1 t440 false a0_0 l0_1 l0_2 l0_3 a0_4 a0_5 l1_0 l1_1 ((rd_T35 l0_2 x7_1).f0) ((rd_T35 l0_2 x7_1).f1) ((rd_T35 l0_2 x7_1).f2))) = some r := H
             have A70 := Aside0.mk A700
             clear A700
             have HC71 := Aside0.mk H
             clear H
             have hnb72 := NB439_436.out
             have hnc72 := NB436_439.out
             have hnb73 := NB439_437.out
             have hnc73 := NB437_439.out
             obtain ⟨hcz74_0, hcz74_1, hcz74_2, hfz74_0, hfz74_1, hfz74_2⟩ := cells3 BK439.out
             go_upto_region 16 with (first | (go_at_call 15; (with_reducible refine (bluebellref06_Label.calls kj60 ((rd_T35 l0_2 x7_1).f0) ((rd_T35 l0_2 x7_1).f1) ((rd_T35 l0_2 x7_1).f2) t445 _ A70.out).mono ?_); rintro e w75 ⟨rfl, hb⟩; have n0_ := Aside0.mk (bkb (g := gb436) hb); have n1_ := Aside0.mk (bkb (g := gb437) hb); have n2_ := Aside0.mk (bkb (g := gb439) hb); have n3_ := Aside0.mk (bstep hb); clear BK436; clear BK437; clear BK439; clear HB; have BK436 := n0_; have BK437 := n1_; have BK439 := n2_; have HB := n3_; clear n0_ n1_ n2_ n3_; (try clear hb)))
             repeat (go_quiet (first | (go_at_call 15; (with_reducible refine (bluebellref06_Label.calls kj60 ((rd_T35 l0_2 x7_1).f0) ((rd_T35 l0_2 x7_1).f1) ((rd_T35 l0_2 x7_1).f2) t445 _ A70.out).mono ?_); rintro e w75 ⟨rfl, hb⟩; have n0_ := Aside0.mk (bkb (g := gb436) hb); have n1_ := Aside0.mk (bkb (g := gb437) hb); have n2_ := Aside0.mk (bkb (g := gb439) hb); have n3_ := Aside0.mk (bstep hb); clear BK436; clear BK437; clear BK439; clear HB; have BK436 := n0_; have BK437 := n1_; have BK439 := n2_; have HB := n3_; clear n0_ n1_ n2_ n3_; (try clear hb); (try clear hb2); (try clear hk); (try clear hi))); go_upto_region 16 with (first | (go_at_call 15; (with_reducible refine (bluebellref06_Label.calls kj60 ((rd_T35 l0_2 x7_1).f0) ((rd_T35 l0_2 x7_1).f1) ((rd_T35 l0_2 x7_1).f2) t445 _ A70.out).mono ?_); rintro e w75 ⟨rfl, hb⟩; have n0_ := Aside0.mk (bkb (g := gb436) hb); have n1_ := Aside0.mk (bkb (g := gb437) hb); have n2_ := Aside0.mk (bkb (g := gb439) hb); have n3_ := Aside0.mk (bstep hb); clear BK436; clear BK437; clear BK439; clear HB; have BK436 := n0_; have BK437 := n1_; have BK439 := n2_; have HB := n3_; clear n0_ n1_ n2_ n3_; (try clear hb); (try clear hb2); (try clear hk); (try clear hi))))
             (try simp only [Act.put, List.setIfInBounds_toArray, List.set_cons_zero, List.set_cons_succ])
             go_cut [89] (fun v89 wc => ∃ (kq : Nat) (x89_70 : Bool), v89 = .bool x89_70 ∧ Aside0 (bluebellref06_deep.j4 kq x6_1 x7_1 t440 x89_70 a0_0 l0_1 l0_2 l0_3 a0_4 a0_5 l1_0 l1_1 ((rd_T35 l0_2 x7_1).f0) ((rd_T35 l0_2 x7_1).f1) ((rd_T35 l0_2 x7_1).f2) = some r) ∧ Aside0 (kq ≤ kj60) ∧ Aside0 (wc.heap[gb436]? = some (.cells #[.string a0_0, (.slice A0_1 l0_1.length c0_1), (.slice (some ad438) l0_2.length c0_2), (.slice A0_3 l0_3.length c0_3), .int .i64 a0_4, .int .i64 a0_5] 26 (0, 0))) ∧ Aside0 (wc.heap[gb437]? = some (.cells #[(.slice A1_0 l1_0.length c1_0), (.slice A1_1 l1_1.length c1_1)] 60 (0, 0))) ∧ Aside0 (wc.heap[gb439]? = some (.cells #[.int .i64 ((rd_T35 l0_2 x7_1).f0), .int .i64 ((rd_T35 l0_2 x7_1).f1), .int .i64 ((rd_T35 l0_2 x7_1).f2)] 35 (0, 0))) ∧ Aside0 (Below w.heap.size w wc))
             case first =>
              have H := HC71.out
              clear HC71
              by_cases c76 : t445 > 0
              ·rw [if_pos c76] at H
               have c76b0 : decide (0 < t445) = true := decide_eq_true c76
               clear c76
               (first | rw [c76b0] | (simp only [i64_w, i32_w]; rw [c76b0]) | skip)
               by_cases c77 : 0 ≤ t445
               rotate_left
               ·rw [if_neg c77] at H
                exact absurd H (by simp)
               rw [if_pos c77] at H
               have c77b0 : decide (0 ≤ t445) = true := decide_eq_true c77
               clear c77
               by_cases c78 : t445 < (l1_0.length : Int)
               rotate_left
               ·rw [if_neg c78] at H
                exact absurd H (by simp)
               rw [if_pos c78] at H
               have c78b0 : decide (t445 < (l1_0.length : Int)) = true := decide_eq_true c78
               clear c78
               replace H := Option.bind_eq_some_iff.mp H
               obtain ⟨t447, A790, H⟩ := H
               replace H : (bluebellref06_deep.j4 kj60 x6_1 x7_1 t440 (t447 != (((rd_T35 l0_2 x7_1).f0) == 27)) a0_0 l0_1 l0_2 l0_3 a0_4 a0_5 l1_0 l1_1 ((rd_T35 l0_2 x7_1).f0) ((rd_T35 l0_2 x7_1).f1) ((rd_T35 l0_2 x7_1).f2)) = some r := H
               have A79 := Aside0.mk A790
               clear A790
               have H' := Aside0.mk H
               clear H
               have hnb80 := NB436_437.out
               have hnc80 := NB437_436.out
               have hnb81 := NB436_439.out
               have hnc81 := NB439_436.out
               obtain ⟨hcz82_0, hcz82_1, hcz82_2, hcz82_3, hcz82_4, hcz82_5, hfz82_0, hfz82_1, hfz82_2, hfz82_3, hfz82_4, hfz82_5⟩ := cells6 BK436.out
               have hnb83 := NB437_439.out
               have hnc83 := NB439_437.out
               obtain ⟨hcz84_0, hcz84_1, hfz84_0, hfz84_1⟩ := cells2 BK437.out
               have p446 : 0 ≤ (t445 : Int) := ofd
               have q446 : t445 < (l1_0.length : Int) := ofd
               obtain ⟨ad446, e446, hx446_0⟩ := Kd.at_int HR1_0.out t445 p446 q446
               cases e446
               replace hx446_0 := (HB.out.cell (World.block_lt_of_cell? w _ hx446_0)).trans hx446_0
               replace p446 := eq_true p446
               replace q446 := eq_true q446
               go_wp2_with (first | (go_at_call 75; (with_reducible refine (bluebellref06_lands.calls kj60 _ _ l0_2 (rd l1_0 t445) t447 _ ?side1 ?side2 A79.out).mono ?_); (case side1 => exact kcb HR0_2.out); (case side2 => exact HC0_2.out); rintro e w' ⟨rfl, ⟨nd, rfl⟩⟩; (try first | exact ⟨rfl, _, World.drewN_drewN _ _ _⟩ | exact ⟨rfl, _, Eq.trans (World.drewN_drewN _ _ _) (congrArg (World.drewN _) (Nat.add_assoc _ _ _))⟩); obtain ⟨hcz85_0, hcz85_1, hcz85_2, hfz85_0, hfz85_1, hfz85_2⟩ := cells3 BK439.out))
               repeat (go_quiet (first | (go_at_call 75; (with_reducible refine (bluebellref06_lands.calls kj60 _ _ l0_2 (rd l1_0 t445) t447 _ ?side1 ?side2 A79.out).mono ?_); (case side1 => exact kcb HR0_2.out); (case side2 => exact HC0_2.out); rintro e w' ⟨rfl, ⟨nd, rfl⟩⟩; (try first | exact ⟨rfl, _, World.drewN_drewN _ _ _⟩ | exact ⟨rfl, _, Eq.trans (World.drewN_drewN _ _ _) (congrArg (World.drewN _) (Nat.add_assoc _ _ _))⟩); obtain ⟨hcz85_0, hcz85_1, hcz85_2, hfz85_0, hfz85_1, hfz85_2⟩ := cells3 BK439.out)); try go_wp2_with (first | (go_at_call 75; (with_reducible refine (bluebellref06_lands.calls kj60 _ _ l0_2 (rd l1_0 t445) t447 _ ?side1 ?side2 A79.out).mono ?_); (case side1 => exact kcb HR0_2.out); (case side2 => exact HC0_2.out); rintro e w' ⟨rfl, ⟨nd, rfl⟩⟩; (try first | exact ⟨rfl, _, World.drewN_drewN _ _ _⟩ | exact ⟨rfl, _, Eq.trans (World.drewN_drewN _ _ _) (congrArg (World.drewN _) (Nat.add_assoc _ _ _))⟩); obtain ⟨hcz85_0, hcz85_1, hcz85_2, hfz85_0, hfz85_1, hfz85_2⟩ := cells3 BK439.out)))
               (first | go_meet | (refine Met.intro ?_; go_step; (repeat apply Exists.intro); refine ⟨?rel, ?fr_⟩; (case fr_ => first | (simp only [c78b0, c77b0, c76b0]; done) | (simp only [c78b0, c77b0, c76b0]; rfl) | (simp only [c78b0, c77b0, c76b0]; rfl))))
               case rel => exact ⟨_, ((t447 != (((rd_T35 l0_2 x7_1).f0) == 27))), wrE, H', ⟨by have := HK1.out; have := HJ14.out; have := HJ34.out; have := HJ60.out; first | omega | exact Nat.le_refl _⟩, ⟨bk⟩, ⟨bk⟩, ⟨bk⟩, ⟨bw⟩⟩
              ·rw [if_neg c76] at H
               have c76b0 : decide (0 < t445) = false := decide_eq_false c76
               clear c76
               (first | rw [c76b0] | (simp only [i64_w, i32_w]; rw [c76b0]) | skip)
               have H' := Aside0.mk H
               clear H
               go_wp2
               repeat (go_quiet (fail); try go_wp2)
               (first | go_meet | (refine Met.intro ?_; go_step; (repeat apply Exists.intro); refine ⟨?rel, ?fr_⟩; (case fr_ => first | (simp only [c76b0]; done) | (simp only [c76b0]; rfl) | (simp only [c76b0]; rfl))))
               case rel => exact ⟨_, (false), wrE, H', ⟨by have := HK1.out; have := HJ14.out; have := HJ34.out; have := HJ60.out; first | omega | exact Nat.le_refl _⟩, ⟨bk⟩, ⟨bk⟩, ⟨bk⟩, ⟨bw⟩⟩
             case rest =>
              clear HC71
              clear hcz74_0 hcz74_1 hcz74_2 hfz74_0 hfz74_1 hfz74_2
              obtain ⟨kq, x89_70, rfl, HA, HJ70, BK436, BK437, BK439, HB⟩ := hcut
              cases kq with
              | zero => exact absurd HA.out (by simp [bluebellref06_deep.j4])
              | succ kj70 =>
               have H := HA.out
               clear HA
               simp only [bluebellref06_deep.j4] at H
               by_cases c86 : x89_70 = true
               ·subst c86
                have H1 : (some false) = some r := by rw [if_pos rfl] at H; exact H
                clear H
                have H := H1
                clear H1
                obtain rfl := Option.some.inj H
                go_wp2
                repeat (go_quiet (fail); try go_wp2)
                go_ret
                exact ⟨erE, bw⟩
               ·replace c86 := Bool.eq_false_iff.mpr c86
                subst c86
                have H1 : (if ((rd_T35 l0_2 x7_1).f0) = 19 then (bluebellref06_deep.l0 kj70 t440 x6_1 (wrap64 (x7_1 + 1)) a0_0 l0_1 l0_2 l0_3 a0_4 a0_5 l1_0 l1_1) else ((bluebellref06_GoesOn.f ((rd_T35 l0_2 x7_1).f0) ((rd_T35 l0_2 x7_1).f1) ((rd_T35 l0_2 x7_1).f2)).bind fun t448 => (bluebellref06_deep.l0 kj70 t440 t448 (wrap64 (x7_1 + 1)) a0_0 l0_1 l0_2 l0_3 a0_4 a0_5 l1_0 l1_1))) = some r := by rw [if_neg (show ¬ (false = true) by decide)] at H; exact H
                clear H
                have H := H1
                clear H1
                by_cases c87 : ((rd_T35 l0_2 x7_1).f0) = 19
                ·rw [if_pos c87] at H
                 have c87b0 : (((rd_T35 l0_2 x7_1).f0) == 19) = true := beq_iff_eq.mpr c87
                 have c87b1 : (((rd_T35 l0_2 x7_1).f0) != 19) = false := bne_eq_false_iff_eq.mpr c87
                 clear c87
                 have H' := Aside0.mk H
                 clear H
                 have hnb88 := NB439_436.out
                 have hnc88 := NB436_439.out
                 have hnb89 := NB439_437.out
                 have hnc89 := NB437_439.out
                 obtain ⟨hcz90_0, hcz90_1, hcz90_2, hfz90_0, hfz90_1, hfz90_2⟩ := cells3 BK439.out
                 go_wp2
                 repeat (go_quiet (fail); try go_wp2)
                 go_roundg kj70
                 case measure => have := HK1.out; have := HJ14.out; have := HJ34.out; have := HJ60.out; have := HJ70.out; omega
                 case rel => exact ⟨(t440), (x6_1), (wrap64 (x7_1 + 1)), wrE, wrE, wrE, H', ⟨by have := HK1.out; have := HJ14.out; have := HJ34.out; have := HJ60.out; have := HJ70.out; omega⟩, ⟨bk⟩, ⟨bk⟩, ⟨bw⟩⟩
                ·rw [if_neg c87] at H
                 have c87b0 : (((rd_T35 l0_2 x7_1).f0) == 19) = false := beq_eq_false_iff_ne.mpr c87
                 have c87b1 : (((rd_T35 l0_2 x7_1).f0) != 19) = true := bne_iff_ne.mpr c87
                 replace H := Option.bind_eq_some_iff.mp H
                 obtain ⟨t448, A910, H⟩ := H
                 replace H : (bluebellref06_deep.l0 kj70 t440 t448 (wrap64 (x7_1 + 1)) a0_0 l0_1 l0_2 l0_3 a0_4 a0_5 l1_0 l1_1) = some r := H
                 have A91 := Aside0.mk A910
                 clear A910
                 have H' := Aside0.mk H
                 clear H
                 have hnb92 := NB439_436.out
                 have hnc92 := NB436_439.out
                 have hnb93 := NB439_437.out
                 have hnc93 := NB437_439.out
                 obtain ⟨hcz94_0, hcz94_1, hcz94_2, hfz94_0, hfz94_1, hfz94_2⟩ := cells3 BK439.out
                 go_wp2_with (first | (go_at_call 72; (with_reducible refine (bluebellref06_GoesOn.calls ((rd_T35 l0_2 x7_1).f0) ((rd_T35 l0_2 x7_1).f1) ((rd_T35 l0_2 x7_1).f2) t448 _ A91.out).mono ?_); rintro e w95 ⟨rfl, hb⟩; have n0_ := Aside0.mk (bkb (g := gb436) hb); have n1_ := Aside0.mk (bkb (g := gb437) hb); have n2_ := Aside0.mk (bkb (g := gb439) hb); have n3_ := Aside0.mk (bstep hb); clear BK436; clear BK437; clear BK439; clear HB; have BK436 := n0_; have BK437 := n1_; have BK439 := n2_; have HB := n3_; clear n0_ n1_ n2_ n3_; (try clear hb)))
                 repeat (go_quiet (first | (go_at_call 72; (with_reducible refine (bluebellref06_GoesOn.calls ((rd_T35 l0_2 x7_1).f0) ((rd_T35 l0_2 x7_1).f1) ((rd_T35 l0_2 x7_1).f2) t448 _ A91.out).mono ?_); rintro e w95 ⟨rfl, hb⟩; have n0_ := Aside0.mk (bkb (g := gb436) hb); have n1_ := Aside0.mk (bkb (g := gb437) hb); have n2_ := Aside0.mk (bkb (g := gb439) hb); have n3_ := Aside0.mk (bstep hb); clear BK436; clear BK437; clear BK439; clear HB; have BK436 := n0_; have BK437 := n1_; have BK439 := n2_; have HB := n3_; clear n0_ n1_ n2_ n3_; (try clear hb); (try clear hb2); (try clear hk); (try clear hi))); try go_wp2_with (first | (go_at_call 72; (with_reducible refine (bluebellref06_GoesOn.calls ((rd_T35 l0_2 x7_1).f0) ((rd_T35 l0_2 x7_1).f1) ((rd_T35 l0_2 x7_1).f2) t448 _ A91.out).mono ?_); rintro e w95 ⟨rfl, hb⟩; have n0_ := Aside0.mk (bkb (g := gb436) hb); have n1_ := Aside0.mk (bkb (g := gb437) hb); have n2_ := Aside0.mk (bkb (g := gb439) hb); have n3_ := Aside0.mk (bstep hb); clear BK436; clear BK437; clear BK439; clear HB; have BK436 := n0_; have BK437 := n1_; have BK439 := n2_; have HB := n3_; clear n0_ n1_ n2_ n3_; (try clear hb); (try clear hb2); (try clear hk); (try clear hi))))
                 go_roundg kj70
                 case measure => have := HK1.out; have := HJ14.out; have := HJ34.out; have := HJ60.out; have := HJ70.out; omega
                 case rel => exact ⟨(t440), (t448), (wrap64 (x7_1 + 1)), wrE, wrE, wrE, H', ⟨by have := HK1.out; have := HJ14.out; have := HJ34.out; have := HJ60.out; have := HJ70.out; omega⟩, ⟨bk⟩, ⟨bk⟩, ⟨bw⟩⟩
   ·rw [if_neg c5] at H
    have c5b0 : decide (x7_1 < (l0_2.length : Int)) = false := decide_eq_false c5
    clear c5
    obtain rfl := Option.some.inj H
    have hnb96 := NB436_437.out
    have hnc96 := NB437_436.out
    obtain ⟨hcz97_0, hcz97_1, hcz97_2, hcz97_3, hcz97_4, hcz97_5, hfz97_0, hfz97_1, hfz97_2, hfz97_3, hfz97_4, hfz97_5⟩ := cells6 BK436.out
    go_wp2
    repeat (go_quiet (fail); try go_wp2)
    go_ret
    exact ⟨erE, bw⟩



/-! ### bluebellref02_Quote: function 70 -/
mutual
def bluebellref02_Quote.l0 : Nat → ByteArray → ByteArray → Int → Option (ByteArray × Int)
 | 0, _, _, _ => none
 | k + 1, x0, x4, x5 => if x5 < (x0.size : Int) then (if 0 ≤ x5 then (if (bt x0 x5) = 10 then (if x4.size + 2 ≤ 9223372036854775807 then (bluebellref02_Quote.l0 k x0 (x4 ++ (⟨#[42, 110]⟩ : ByteArray)) (wrap64 (x5 + 1))) else (none)) else (if (bt x0 x5) = 9 then (if x4.size + 2 ≤ 9223372036854775807 then (bluebellref02_Quote.l0 k x0 (x4 ++ (⟨#[42, 116]⟩ : ByteArray)) (wrap64 (x5 + 1))) else (none)) else (if (bt x0 x5) = 42 then (bluebellref02_Quote.j1 k x0 x4 x5 (bt x0 x5) true) else (bluebellref02_Quote.j1 k x0 x4 x5 (bt x0 x5) ((bt x0 x5) == 34))))) else (none)) else (if (x0.size : Int) > 100 then (some ((⟨#[]⟩ : ByteArray), 2)) else (if x4.size + 1 ≤ 9223372036854775807 then (some (x4 ++ (⟨#[34]⟩ : ByteArray), 0)) else (none)))
def bluebellref02_Quote.j1 : Nat → ByteArray → ByteArray → Int → Int → Bool → Option (ByteArray × Int)
 | 0, _, _, _, _, _ => none
 | k + 1, x0, x4, x5, x6, x33 => if x33 = true then (if 0 ≤ x5 then (if x5 ≤ (wrap64 (x5 + 1)) then (if (wrap64 (x5 + 1)) ≤ (x0.size : Int) then (if 1 + (x0.extract (x5 : Int).toNat ((wrap64 (x5 + 1)) : Int).toNat).size ≤ 9223372036854775807 then (if x4.size + ((⟨#[42]⟩ : ByteArray) ++ (x0.extract (x5 : Int).toNat ((wrap64 (x5 + 1)) : Int).toNat)).size ≤ 9223372036854775807 then (bluebellref02_Quote.l0 k x0 (x4 ++ ((⟨#[42]⟩ : ByteArray) ++ (x0.extract (x5 : Int).toNat ((wrap64 (x5 + 1)) : Int).toNat))) (wrap64 (x5 + 1))) else (none)) else (none)) else (none)) else (none)) else (none)) else (if x6 < 32 then (some ((⟨#[]⟩ : ByteArray), 3)) else (if x6 > 126 then (some ((⟨#[]⟩ : ByteArray), 3)) else (if 0 ≤ x5 then (if x5 ≤ (wrap64 (x5 + 1)) then (if (wrap64 (x5 + 1)) ≤ (x0.size : Int) then (if x4.size + (x0.extract (x5 : Int).toNat ((wrap64 (x5 + 1)) : Int).toNat).size ≤ 9223372036854775807 then (bluebellref02_Quote.l0 k x0 (x4 ++ (x0.extract (x5 : Int).toNat ((wrap64 (x5 + 1)) : Int).toNat)) (wrap64 (x5 + 1))) else (none)) else (none)) else (none)) else (none))))
end
def bluebellref02_Quote.f (k : Nat) (a0 : ByteArray) : Option (ByteArray × Int) := bluebellref02_Quote.l0 k a0 (⟨#[34]⟩ : ByteArray) 0
theorem bluebellref02_Quote.mono_l : ∀ k, (∀ y0 y1 y2, LeO (bluebellref02_Quote.l0 k y0 y1 y2) (bluebellref02_Quote.l0 (k + 1) y0 y1 y2)) ∧ (∀ y0 y1 y2 y3 y4, LeO (bluebellref02_Quote.j1 k y0 y1 y2 y3 y4) (bluebellref02_Quote.j1 (k + 1) y0 y1 y2 y3 y4))
 | 0 => ⟨fun _ _ _ r h => by simp [bluebellref02_Quote.l0] at h, fun _ _ _ _ _ r h => by simp [bluebellref02_Quote.j1] at h⟩
 | k + 1 => by
  obtain ⟨ih0, ih1⟩ := bluebellref02_Quote.mono_l k
  refine ⟨?_, ?_⟩
  ·intro y0 y1 y2
   unfold bluebellref02_Quote.l0
   repeat' first
   | (with_reducible exact ih0 _ _ _)
   | (with_reducible exact ih1 _ _ _ _ _)
   | (with_reducible exact LeO.refl _)
   | (with_reducible exact LeO.none _)
   | (with_reducible refine LeO.ite ?_ ?_)
   | (with_reducible refine LeO.bind ?_ (fun _ => ?_))
   | exact ih0 _ _ _
   | exact ih1 _ _ _ _ _
   | exact LeO.none _
   | refine LeO.ite ?_ ?_
   | refine LeO.bind ?_ (fun _ => ?_)
  ·intro y0 y1 y2 y3 y4
   unfold bluebellref02_Quote.j1
   repeat' first
   | (with_reducible exact ih0 _ _ _)
   | (with_reducible exact ih1 _ _ _ _ _)
   | (with_reducible exact LeO.refl _)
   | (with_reducible exact LeO.none _)
   | (with_reducible refine LeO.ite ?_ ?_)
   | (with_reducible refine LeO.bind ?_ (fun _ => ?_))
   | exact ih0 _ _ _
   | exact ih1 _ _ _ _ _
   | exact LeO.none _
   | refine LeO.ite ?_ ?_
   | refine LeO.bind ?_ (fun _ => ?_)
theorem bluebellref02_Quote.mono : ∀ a0 k, LeO (bluebellref02_Quote.f k a0) (bluebellref02_Quote.f (k + 1) a0) := by
 intro a0 k
 obtain ⟨ih0, ih1⟩ := bluebellref02_Quote.mono_l k
 unfold bluebellref02_Quote.f
 repeat' first
   | (with_reducible exact ih0 _ _ _)
   | (with_reducible exact ih1 _ _ _ _ _)
   | (with_reducible exact LeO.refl _)
   | (with_reducible exact LeO.none _)
   | (with_reducible refine LeO.ite ?_ ?_)
   | (with_reducible refine LeO.bind ?_ (fun _ => ?_))
   | exact ih0 _ _ _
   | exact ih1 _ _ _ _ _
   | exact LeO.none _
   | refine LeO.ite ?_ ?_
   | refine LeO.bind ?_ (fun _ => ?_)
set_option maxHeartbeats 8000000 in
set_option maxRecDepth 100000 in
theorem bluebellref02_Quote.calls (k : Nat) (a0 : ByteArray) (r1 : ByteArray) (r2 : Int) (w : World) (h : bluebellref02_Quote.f k a0 = some (r1, r2)) :
  Calls Try.prog 70 #[.string a0] w fun e w' => e = .returned (.tuple #[.string r1, .int .i64 r2]) ∧ Drawn0 w w' := by
 have H : (bluebellref02_Quote.l0 k a0 (⟨#[34]⟩ : ByteArray) 0) = some (r1, r2) := h
 clear h
 have H' := Aside0.mk H
 clear H
 go_enter Try.func70, Try.ntmps70
 go_wp2
 go_loopg [4, 5] k (fun kq v4 v5 w' => ∃ (x4_1 : ByteArray) (x5_1 : Int), v4 = .string x4_1 ∧ v5 = .int .i64 x5_1 ∧ Aside0 (bluebellref02_Quote.l0 kq a0 x4_1 x5_1 = some (r1, r2)) ∧ Aside0 (kq ≤ k) ∧ Drawn0 w w')
 case atStart => exact ⟨((⟨#[34]⟩ : ByteArray)), (0), wrE, wrE, H', ⟨Nat.le_refl _⟩, by repeat (first | exact Drawn0.refl _ | apply Drawn0.step)⟩
 case round =>
  clear H'
  obtain ⟨x4_1, x5_1, rfl, rfl, HA, HK1, ⟨m1, rfl⟩⟩ := hrel
  cases gk with
  | zero => exact absurd HA.out (by simp [bluebellref02_Quote.l0])
  | succ k1 =>
   have H := HA.out
   clear HA
   simp only [bluebellref02_Quote.l0] at H
   by_cases c2 : x5_1 < (a0.size : Int)
   ·rw [if_pos c2] at H
    have c2b0 : decide (x5_1 < (a0.size : Int)) = true := decide_eq_true c2
    clear c2
    by_cases c3 : 0 ≤ x5_1
    rotate_left
    ·rw [if_neg c3] at H
     exact absurd H (by simp)
    rw [if_pos c3] at H
    have c3b0 : decide (0 ≤ x5_1) = true := decide_eq_true c3
    clear c3
    by_cases c5 : (bt a0 x5_1) = 10
    ·rw [if_pos c5] at H
     have c5b0 : ((bt a0 x5_1) == 10) = true := beq_iff_eq.mpr c5
     have c5b1 : ((bt a0 x5_1) != 10) = false := bne_eq_false_iff_eq.mpr c5
     clear c5
     by_cases c6 : x4_1.size + 2 ≤ 9223372036854775807
     rotate_left
     ·rw [if_neg c6] at H
      exact absurd H (by simp)
     rw [if_pos c6] at H
     have c6b0 := eq_true c6
     have c6b1 : decide (x4_1.size + 2 ≤ 9223372036854775807) = true := decide_eq_true c6
     try have c6b2 : (9223372036854775807 < x4_1.size + 2) = False := eq_false (Nat.not_lt.2 c6)
     have H' := Aside0.mk H
     clear H
     have p4 : 0 ≤ (x5_1 : Int) := ofd
     have q4 : x5_1 < (a0.size : Int) := ofd
     have hx4 := bt_at a0 x5_1
     replace p4 := eq_true p4
     replace q4 := eq_true q4
     go_wp2
     go_roundg k1
     case measure => have := HK1.out; omega
     case rel => exact ⟨(x4_1 ++ (⟨#[42, 110]⟩ : ByteArray)), (wrap64 (x5_1 + 1)), wrE, wrE, H', ⟨by have := HK1.out; omega⟩, by repeat (first | exact Drawn0.refl _ | apply Drawn0.step)⟩
    ·rw [if_neg c5] at H
     have c5b0 : ((bt a0 x5_1) == 10) = false := beq_eq_false_iff_ne.mpr c5
     have c5b1 : ((bt a0 x5_1) != 10) = true := bne_iff_ne.mpr c5
     by_cases c7 : (bt a0 x5_1) = 9
     ·rw [if_pos c7] at H
      have c7b0 : ((bt a0 x5_1) == 9) = true := beq_iff_eq.mpr c7
      have c7b1 : ((bt a0 x5_1) != 9) = false := bne_eq_false_iff_eq.mpr c7
      clear c7
      by_cases c8 : x4_1.size + 2 ≤ 9223372036854775807
      rotate_left
      ·rw [if_neg c8] at H
       exact absurd H (by simp)
      rw [if_pos c8] at H
      have c8b0 := eq_true c8
      have c8b1 : decide (x4_1.size + 2 ≤ 9223372036854775807) = true := decide_eq_true c8
      try have c8b2 : (9223372036854775807 < x4_1.size + 2) = False := eq_false (Nat.not_lt.2 c8)
      have H' := Aside0.mk H
      clear H
      have p4 : 0 ≤ (x5_1 : Int) := ofd
      have q4 : x5_1 < (a0.size : Int) := ofd
      have hx4 := bt_at a0 x5_1
      replace p4 := eq_true p4
      replace q4 := eq_true q4
      go_wp2
      go_roundg k1
      case measure => have := HK1.out; omega
      case rel => exact ⟨(x4_1 ++ (⟨#[42, 116]⟩ : ByteArray)), (wrap64 (x5_1 + 1)), wrE, wrE, H', ⟨by have := HK1.out; omega⟩, by repeat (first | exact Drawn0.refl _ | apply Drawn0.step)⟩
     ·rw [if_neg c7] at H
      have c7b0 : ((bt a0 x5_1) == 9) = false := beq_eq_false_iff_ne.mpr c7
      have c7b1 : ((bt a0 x5_1) != 9) = true := bne_iff_ne.mpr c7
      have HC9 := Aside0.mk H
      clear H
      have p4 : 0 ≤ (x5_1 : Int) := ofd
      have q4 : x5_1 < (a0.size : Int) := ofd
      have hx4 := bt_at a0 x5_1
      replace p4 := eq_true p4
      replace q4 := eq_true q4
      go_upto_region 11 with (fail)
      go_cut [33] (fun v33 wc => ∃ (kq : Nat) (x33_8 : Bool), v33 = .bool x33_8 ∧ Aside0 (bluebellref02_Quote.j1 kq a0 x4_1 x5_1 (bt a0 x5_1) x33_8 = some (r1, r2)) ∧ Aside0 (kq ≤ k1) ∧ Drawn0 w wc)
      case first =>
       have H := HC9.out
       clear HC9
       by_cases c10 : (bt a0 x5_1) = 42
       ·rw [if_pos c10] at H
        have c10b0 : ((bt a0 x5_1) == 42) = true := beq_iff_eq.mpr c10
        have c10b1 : ((bt a0 x5_1) != 42) = false := bne_eq_false_iff_eq.mpr c10
        clear c10
        (first | rw [c10b0] | (simp only [i64_w, i32_w]; rw [c10b0]) | skip)
        have H' := Aside0.mk H
        clear H
        go_wp2
        (first | go_meet | (refine Met.intro ?_; go_step; (repeat apply Exists.intro); refine ⟨?rel, ?fr_⟩; (case fr_ => first | (simp only [c10b1, c10b0]; done) | (simp only [c10b1, c10b0]; rfl) | (simp only [c10b1, c10b0]; rfl))))
        case rel => exact ⟨_, (true), wrE, H', ⟨by have := HK1.out; first | omega | exact Nat.le_refl _⟩, by repeat (first | exact Drawn0.refl _ | apply Drawn0.step)⟩
       ·rw [if_neg c10] at H
        have c10b0 : ((bt a0 x5_1) == 42) = false := beq_eq_false_iff_ne.mpr c10
        have c10b1 : ((bt a0 x5_1) != 42) = true := bne_iff_ne.mpr c10
        (first | rw [c10b0] | (simp only [i64_w, i32_w]; rw [c10b0]) | skip)
        have H' := Aside0.mk H
        clear H
        go_wp2
        (first | go_meet | (refine Met.intro ?_; go_step; (repeat apply Exists.intro); refine ⟨?rel, ?fr_⟩; (case fr_ => first | (simp only [c10b1, c10b0]; done) | (simp only [c10b1, c10b0]; rfl) | (simp only [c10b1, c10b0]; rfl))))
        case rel => exact ⟨_, (((bt a0 x5_1) == 34)), wrE, H', ⟨by have := HK1.out; first | omega | exact Nat.le_refl _⟩, by repeat (first | exact Drawn0.refl _ | apply Drawn0.step)⟩
      case rest =>
       clear HC9
       clear c2b0 c3b0 p4 q4 hx4 c5 c5b0 c5b1 c7 c7b0 c7b1
       obtain ⟨kq, x33_8, rfl, HA, HJ8, ⟨mc8, rfl⟩⟩ := hcut
       cases kq with
       | zero => exact absurd HA.out (by simp [bluebellref02_Quote.j1])
       | succ kj8 =>
        have H := HA.out
        clear HA
        simp only [bluebellref02_Quote.j1] at H
        by_cases c11 : x33_8 = true
        ·subst c11
         have H1 : (if 0 ≤ x5_1 then (if x5_1 ≤ (wrap64 (x5_1 + 1)) then (if (wrap64 (x5_1 + 1)) ≤ (a0.size : Int) then (if 1 + (a0.extract (x5_1 : Int).toNat ((wrap64 (x5_1 + 1)) : Int).toNat).size ≤ 9223372036854775807 then (if x4_1.size + ((⟨#[42]⟩ : ByteArray) ++ (a0.extract (x5_1 : Int).toNat ((wrap64 (x5_1 + 1)) : Int).toNat)).size ≤ 9223372036854775807 then (bluebellref02_Quote.l0 kj8 a0 (x4_1 ++ ((⟨#[42]⟩ : ByteArray) ++ (a0.extract (x5_1 : Int).toNat ((wrap64 (x5_1 + 1)) : Int).toNat))) (wrap64 (x5_1 + 1))) else (none)) else (none)) else (none)) else (none)) else (none)) = some (r1, r2) := by rw [if_pos rfl] at H; exact H
         clear H
         have H := H1
         clear H1
         by_cases c12 : 0 ≤ x5_1
         rotate_left
         ·rw [if_neg c12] at H
          exact absurd H (by simp)
         rw [if_pos c12] at H
         have c12b0 := eq_true c12
         have c12b1 : decide (0 ≤ x5_1) = true := decide_eq_true c12
         clear c12
         by_cases c13 : x5_1 ≤ (wrap64 (x5_1 + 1))
         rotate_left
         ·rw [if_neg c13] at H
          exact absurd H (by simp)
         rw [if_pos c13] at H
         have c13b0 := eq_true c13
         have c13b1 : decide (x5_1 ≤ (wrap64 (x5_1 + 1))) = true := decide_eq_true c13
         by_cases c14 : (wrap64 (x5_1 + 1)) ≤ (a0.size : Int)
         rotate_left
         ·rw [if_neg c14] at H
          exact absurd H (by simp)
         rw [if_pos c14] at H
         have c14b0 := eq_true c14
         have c14b1 : decide ((wrap64 (x5_1 + 1)) ≤ (a0.size : Int)) = true := decide_eq_true c14
         by_cases c15 : 1 + (a0.extract (x5_1 : Int).toNat ((wrap64 (x5_1 + 1)) : Int).toNat).size ≤ 9223372036854775807
         rotate_left
         ·rw [if_neg c15] at H
          exact absurd H (by simp)
         rw [if_pos c15] at H
         have c15b0 := eq_true c15
         have c15b1 : decide (1 + (a0.extract (x5_1 : Int).toNat ((wrap64 (x5_1 + 1)) : Int).toNat).size ≤ 9223372036854775807) = true := decide_eq_true c15
         try have c15b2 : (9223372036854775807 < 1 + (a0.extract (x5_1 : Int).toNat ((wrap64 (x5_1 + 1)) : Int).toNat).size) = False := eq_false (Nat.not_lt.2 c15)
         try have c15b3 : (9223372036854775807 < 1 + ((((wrap64 (x5_1 + 1)) : Int).toNat - (x5_1 : Int).toNat))) = False := eq_false (by have h_ := c15; have e_ : 1 + ((((wrap64 (x5_1 + 1)) : Int).toNat - (x5_1 : Int).toNat)) = 1 + (a0.extract (x5_1 : Int).toNat ((wrap64 (x5_1 + 1)) : Int).toNat).size := (by simp only [ByteArray.size_append, ByteArray.size_extract]; omega); omega)
         by_cases c16 : x4_1.size + ((⟨#[42]⟩ : ByteArray) ++ (a0.extract (x5_1 : Int).toNat ((wrap64 (x5_1 + 1)) : Int).toNat)).size ≤ 9223372036854775807
         rotate_left
         ·rw [if_neg c16] at H
          exact absurd H (by simp)
         rw [if_pos c16] at H
         have c16b0 := eq_true c16
         have c16b1 : decide (x4_1.size + ((⟨#[42]⟩ : ByteArray) ++ (a0.extract (x5_1 : Int).toNat ((wrap64 (x5_1 + 1)) : Int).toNat)).size ≤ 9223372036854775807) = true := decide_eq_true c16
         try have c16b2 : (9223372036854775807 < x4_1.size + ((⟨#[42]⟩ : ByteArray) ++ (a0.extract (x5_1 : Int).toNat ((wrap64 (x5_1 + 1)) : Int).toNat)).size) = False := eq_false (Nat.not_lt.2 c16)
         try have c16b3 : (9223372036854775807 < x4_1.size + (1 + ((((wrap64 (x5_1 + 1)) : Int).toNat - (x5_1 : Int).toNat)))) = False := eq_false (by have h_ := c16; have z0_ : (⟨#[42]⟩ : ByteArray).size = 1 := rfl; have e_ : x4_1.size + (1 + ((((wrap64 (x5_1 + 1)) : Int).toNat - (x5_1 : Int).toNat))) = x4_1.size + ((⟨#[42]⟩ : ByteArray) ++ (a0.extract (x5_1 : Int).toNat ((wrap64 (x5_1 + 1)) : Int).toNat)).size := (by simp only [ByteArray.size_append, ByteArray.size_extract, z0_]; omega); omega)
         have H' := Aside0.mk H
         clear H
         go_wp2
         go_roundg kj8
         case measure => have := HK1.out; have := HJ8.out; omega
         case rel => exact ⟨(x4_1 ++ ((⟨#[42]⟩ : ByteArray) ++ (a0.extract (x5_1 : Int).toNat ((wrap64 (x5_1 + 1)) : Int).toNat))), (wrap64 (x5_1 + 1)), wrE, wrE, H', ⟨by have := HK1.out; have := HJ8.out; omega⟩, by repeat (first | exact Drawn0.refl _ | apply Drawn0.step)⟩
        ·replace c11 := Bool.eq_false_iff.mpr c11
         subst c11
         have H1 : (if (bt a0 x5_1) < 32 then (some ((⟨#[]⟩ : ByteArray), 3)) else (if (bt a0 x5_1) > 126 then (some ((⟨#[]⟩ : ByteArray), 3)) else (if 0 ≤ x5_1 then (if x5_1 ≤ (wrap64 (x5_1 + 1)) then (if (wrap64 (x5_1 + 1)) ≤ (a0.size : Int) then (if x4_1.size + (a0.extract (x5_1 : Int).toNat ((wrap64 (x5_1 + 1)) : Int).toNat).size ≤ 9223372036854775807 then (bluebellref02_Quote.l0 kj8 a0 (x4_1 ++ (a0.extract (x5_1 : Int).toNat ((wrap64 (x5_1 + 1)) : Int).toNat)) (wrap64 (x5_1 + 1))) else (none)) else (none)) else (none)) else (none)))) = some (r1, r2) := by rw [if_neg (show ¬ (false = true) by decide)] at H; exact H
         clear H
         have H := H1
         clear H1
         by_cases c17 : (bt a0 x5_1) < 32
         ·rw [if_pos c17] at H
          have c17b0 : decide ((bt a0 x5_1) < 32) = true := decide_eq_true c17
          clear c17
          simp only [Option.some.injEq, Prod.mk.injEq] at H
          obtain ⟨rfl, rfl⟩ := H
          go_wp2
          go_ret2
          exact ⟨by first | rfl | (simp; done) | (simp [*]; done), by repeat (first | exact Drawn0.refl _ | apply Drawn0.step)⟩
         ·rw [if_neg c17] at H
          have c17b0 : decide ((bt a0 x5_1) < 32) = false := decide_eq_false c17
          clear c17
          by_cases c18 : (bt a0 x5_1) > 126
          ·rw [if_pos c18] at H
           have c18b0 : decide (126 < (bt a0 x5_1)) = true := decide_eq_true c18
           clear c18
           simp only [Option.some.injEq, Prod.mk.injEq] at H
           obtain ⟨rfl, rfl⟩ := H
           go_wp2
           go_ret2
           exact ⟨by first | rfl | (simp; done) | (simp [*]; done), by repeat (first | exact Drawn0.refl _ | apply Drawn0.step)⟩
          ·rw [if_neg c18] at H
           have c18b0 : decide (126 < (bt a0 x5_1)) = false := decide_eq_false c18
           clear c18
           by_cases c19 : 0 ≤ x5_1
           rotate_left
           ·rw [if_neg c19] at H
            exact absurd H (by simp)
           rw [if_pos c19] at H
           have c19b0 := eq_true c19
           have c19b1 : decide (0 ≤ x5_1) = true := decide_eq_true c19
           clear c19
           by_cases c20 : x5_1 ≤ (wrap64 (x5_1 + 1))
           rotate_left
           ·rw [if_neg c20] at H
            exact absurd H (by simp)
           rw [if_pos c20] at H
           have c20b0 := eq_true c20
           have c20b1 : decide (x5_1 ≤ (wrap64 (x5_1 + 1))) = true := decide_eq_true c20
           by_cases c21 : (wrap64 (x5_1 + 1)) ≤ (a0.size : Int)
           rotate_left
           ·rw [if_neg c21] at H
            exact absurd H (by simp)
           rw [if_pos c21] at H
           have c21b0 := eq_true c21
           have c21b1 : decide ((wrap64 (x5_1 + 1)) ≤ (a0.size : Int)) = true := decide_eq_true c21
           by_cases c22 : x4_1.size + (a0.extract (x5_1 : Int).toNat ((wrap64 (x5_1 + 1)) : Int).toNat).size ≤ 9223372036854775807
           rotate_left
           ·rw [if_neg c22] at H
            exact absurd H (by simp)
           rw [if_pos c22] at H
           have c22b0 := eq_true c22
           have c22b1 : decide (x4_1.size + (a0.extract (x5_1 : Int).toNat ((wrap64 (x5_1 + 1)) : Int).toNat).size ≤ 9223372036854775807) = true := decide_eq_true c22
           try have c22b2 : (9223372036854775807 < x4_1.size + (a0.extract (x5_1 : Int).toNat ((wrap64 (x5_1 + 1)) : Int).toNat).size) = False := eq_false (Nat.not_lt.2 c22)
           try have c22b3 : (9223372036854775807 < x4_1.size + ((((wrap64 (x5_1 + 1)) : Int).toNat - (x5_1 : Int).toNat))) = False := eq_false (by have h_ := c22; have e_ : x4_1.size + ((((wrap64 (x5_1 + 1)) : Int).toNat - (x5_1 : Int).toNat)) = x4_1.size + (a0.extract (x5_1 : Int).toNat ((wrap64 (x5_1 + 1)) : Int).toNat).size := (by simp only [ByteArray.size_append, ByteArray.size_extract]; omega); omega)
           have H' := Aside0.mk H
           clear H
           go_wp2
           go_roundg kj8
           case measure => have := HK1.out; have := HJ8.out; omega
           case rel => exact ⟨(x4_1 ++ (a0.extract (x5_1 : Int).toNat ((wrap64 (x5_1 + 1)) : Int).toNat)), (wrap64 (x5_1 + 1)), wrE, wrE, H', ⟨by have := HK1.out; have := HJ8.out; omega⟩, by repeat (first | exact Drawn0.refl _ | apply Drawn0.step)⟩
   ·rw [if_neg c2] at H
    have c2b0 : decide (x5_1 < (a0.size : Int)) = false := decide_eq_false c2
    clear c2
    by_cases c23 : (a0.size : Int) > 100
    ·rw [if_pos c23] at H
     have c23b0 : decide (100 < (a0.size : Int)) = true := decide_eq_true c23
     have c23b1 : decide (100 < a0.size) = true := decide_eq_true (by omega)
     clear c23
     simp only [Option.some.injEq, Prod.mk.injEq] at H
     obtain ⟨rfl, rfl⟩ := H
     go_wp2
     go_ret2
     exact ⟨by first | rfl | (simp; done) | (simp [*]; done), by repeat (first | exact Drawn0.refl _ | apply Drawn0.step)⟩
    ·rw [if_neg c23] at H
     have c23b0 : decide (100 < (a0.size : Int)) = false := decide_eq_false c23
     have c23b1 : decide (100 < a0.size) = false := decide_eq_false (by omega)
     clear c23
     by_cases c24 : x4_1.size + 1 ≤ 9223372036854775807
     ·rw [if_pos c24] at H
      have c24b0 := eq_true c24
      have c24b1 : decide (x4_1.size + 1 ≤ 9223372036854775807) = true := decide_eq_true c24
      try have c24b2 : (9223372036854775807 < x4_1.size + 1) = False := eq_false (Nat.not_lt.2 c24)
      simp only [Option.some.injEq, Prod.mk.injEq] at H
      obtain ⟨rfl, rfl⟩ := H
      go_wp2
      go_ret2
      exact ⟨by first | rfl | (simp; done) | (simp [*]; done), by repeat (first | exact Drawn0.refl _ | apply Drawn0.step)⟩
     ·rw [if_neg c24] at H
      exact absurd H (by simp)



/-! ### bluebellref06_areas: function 43 -/
mutual
def bluebellref06_areas.l0 : Nat → Int → ByteArray → List (S47) → List (S35) → List (S68) → Int → Int → Option (Bool)
 | 0, _, _, _, _, _, _, _ => none
 | k + 1, x3, p0, p1, p2, p3, p4, p5 => if x3 < (p1.length : Int) then (if 0 ≤ x3 then (if (rd_T47 p1 x3).f1 = true then ((bluebellref02_Quote.f k ((rd_T47 p1 x3).f0)).bind fun bt365 => (if bt365.2 = 0 then (if (((rd_T47 p1 x3).f2).length : Int) > 0 then (some false) else (bluebellref06_areas.l0 k (wrap64 (x3 + 1)) p0 p1 p2 p3 p4 p5)) else (some false))) else (if ((rd_T47 p1 x3).f0).toList = ([] : List UInt8) then (bluebellref06_areas.j1 k x3 ((((rd_T47 p1 x3).f2).length : Int) == 0) p0 p1 p2 p3 p4 p5 ((rd_T47 p1 x3).f0) ((rd_T47 p1 x3).f1) ((rd_T47 p1 x3).f2)) else (bluebellref06_areas.j1 k x3 true p0 p1 p2 p3 p4 p5 ((rd_T47 p1 x3).f0) ((rd_T47 p1 x3).f1) ((rd_T47 p1 x3).f2)))) else (none)) else (bluebellref06_areas.l2 k 0 p0 p1 p2 p3 p4 p5)
def bluebellref06_areas.j1 : Nat → Int → Bool → ByteArray → List (S47) → List (S35) → List (S68) → Int → Int → ByteArray → Bool → List Int → Option (Bool)
 | 0, _, _, _, _, _, _, _, _, _, _, _ => none
 | k + 1, x3, x49, p0, p1, p2, p3, p4, p5, q0, q1, q2 => if x49 = true then (some false) else (bluebellref06_areas.l1 k x3 0 p0 p1 p2 p3 p4 p5 q0 q1 q2)
def bluebellref06_areas.l1 : Nat → Int → Int → ByteArray → List (S47) → List (S35) → List (S68) → Int → Int → ByteArray → Bool → List Int → Option (Bool)
 | 0, _, _, _, _, _, _, _, _, _, _, _ => none
 | k + 1, x3, x7, p0, p1, p2, p3, p4, p5, q0, q1, q2 => if x7 < (q2.length : Int) then (if 0 ≤ x7 then ((bluebellref06_in.f (rd q2 x7) (-2147483648) 2147483647).bind fun t368 => (if t368 = true then (bluebellref06_areas.l1 k x3 (wrap64 (x7 + 1)) p0 p1 p2 p3 p4 p5 q0 q1 q2) else (some false))) else (none)) else (bluebellref06_areas.l0 k (wrap64 (x3 + 1)) p0 p1 p2 p3 p4 p5)
def bluebellref06_areas.l2 : Nat → Int → ByteArray → List (S47) → List (S35) → List (S68) → Int → Int → Option (Bool)
 | 0, _, _, _, _, _, _, _ => none
 | k + 1, x8, p0, p1, p2, p3, p4, p5 => if x8 < (p3.length : Int) then (if 0 ≤ x8 then ((bluebellref06_in.f ((rd_T68 p3 x8).f0) 1 199).bind fun t373 => (if t373 = true then ((bluebellref06_in.f ((rd_T68 p3 x8).f1) 1 p4).bind fun t374 => (bluebellref06_areas.j4 k x8 (!t374) p0 p1 p2 p3 p4 p5 ((rd_T68 p3 x8).f0) ((rd_T68 p3 x8).f1))) else (bluebellref06_areas.j4 k x8 true p0 p1 p2 p3 p4 p5 ((rd_T68 p3 x8).f0) ((rd_T68 p3 x8).f1)))) else (none)) else ((bluebellref02_Quote.f k p0).bind fun bt369 => (some (bt369.2 == 0)))
def bluebellref06_areas.j4 : Nat → Int → Bool → ByteArray → List (S47) → List (S35) → List (S68) → Int → Int → Int → Int → Option (Bool)
 | 0, _, _, _, _, _, _, _, _, _, _ => none
 | k + 1, x8, x87, p0, p1, p2, p3, p4, p5, q0, q1 => if x87 = true then (some false) else (bluebellref06_areas.l3 k x8 0 p0 p1 p2 p3 p4 p5 q0 q1)
def bluebellref06_areas.l3 : Nat → Int → Int → ByteArray → List (S47) → List (S35) → List (S68) → Int → Int → Int → Int → Option (Bool)
 | 0, _, _, _, _, _, _, _, _, _, _ => none
 | k + 1, x8, x10, p0, p1, p2, p3, p4, p5, q0, q1 => if x10 < x8 then (if 0 ≤ x10 then (if x10 < (p3.length : Int) then (if ((rd_T68 p3 x10).f0) = q0 then (some false) else (bluebellref06_areas.l3 k x8 (wrap64 (x10 + 1)) p0 p1 p2 p3 p4 p5 q0 q1)) else (none)) else (none)) else (bluebellref06_areas.l2 k (wrap64 (x8 + 1)) p0 p1 p2 p3 p4 p5)
end
def bluebellref06_areas.f (k : Nat) (a0_0 : ByteArray) (l0_1 : List (S47)) (l0_2 : List (S35)) (l0_3 : List (S68)) (a0_4 : Int) (a0_5 : Int) : Option (Bool) := bluebellref06_areas.l0 k 0 a0_0 l0_1 l0_2 l0_3 a0_4 a0_5
theorem bluebellref06_areas.mono_l : ∀ k, (∀ y0 y1 y2 y3 y4 y5 y6, LeO (bluebellref06_areas.l0 k y0 y1 y2 y3 y4 y5 y6) (bluebellref06_areas.l0 (k + 1) y0 y1 y2 y3 y4 y5 y6)) ∧ (∀ y0 y1 y2 y3 y4 y5 y6 y7 y8 y9 y10, LeO (bluebellref06_areas.j1 k y0 y1 y2 y3 y4 y5 y6 y7 y8 y9 y10) (bluebellref06_areas.j1 (k + 1) y0 y1 y2 y3 y4 y5 y6 y7 y8 y9 y10)) ∧ (∀ y0 y1 y2 y3 y4 y5 y6 y7 y8 y9 y10, LeO (bluebellref06_areas.l1 k y0 y1 y2 y3 y4 y5 y6 y7 y8 y9 y10) (bluebellref06_areas.l1 (k + 1) y0 y1 y2 y3 y4 y5 y6 y7 y8 y9 y10)) ∧ (∀ y0 y1 y2 y3 y4 y5 y6, LeO (bluebellref06_areas.l2 k y0 y1 y2 y3 y4 y5 y6) (bluebellref06_areas.l2 (k + 1) y0 y1 y2 y3 y4 y5 y6)) ∧ (∀ y0 y1 y2 y3 y4 y5 y6 y7 y8 y9, LeO (bluebellref06_areas.j4 k y0 y1 y2 y3 y4 y5 y6 y7 y8 y9) (bluebellref06_areas.j4 (k + 1) y0 y1 y2 y3 y4 y5 y6 y7 y8 y9)) ∧ (∀ y0 y1 y2 y3 y4 y5 y6 y7 y8 y9, LeO (bluebellref06_areas.l3 k y0 y1 y2 y3 y4 y5 y6 y7 y8 y9) (bluebellref06_areas.l3 (k + 1) y0 y1 y2 y3 y4 y5 y6 y7 y8 y9))
 | 0 => ⟨fun _ _ _ _ _ _ _ r h => by simp [bluebellref06_areas.l0] at h, fun _ _ _ _ _ _ _ _ _ _ _ r h => by simp [bluebellref06_areas.j1] at h, fun _ _ _ _ _ _ _ _ _ _ _ r h => by simp [bluebellref06_areas.l1] at h, fun _ _ _ _ _ _ _ r h => by simp [bluebellref06_areas.l2] at h, fun _ _ _ _ _ _ _ _ _ _ r h => by simp [bluebellref06_areas.j4] at h, fun _ _ _ _ _ _ _ _ _ _ r h => by simp [bluebellref06_areas.l3] at h⟩
 | k + 1 => by
  obtain ⟨ih0, ih1, ih2, ih3, ih4, ih5⟩ := bluebellref06_areas.mono_l k
  refine ⟨?_, ?_, ?_, ?_, ?_, ?_⟩
  ·intro y0 y1 y2 y3 y4 y5 y6
   unfold bluebellref06_areas.l0
   repeat' first
   | (with_reducible exact ih0 _ _ _ _ _ _ _)
   | (with_reducible exact ih1 _ _ _ _ _ _ _ _ _ _ _)
   | (with_reducible exact ih2 _ _ _ _ _ _ _ _ _ _ _)
   | (with_reducible exact ih3 _ _ _ _ _ _ _)
   | (with_reducible exact ih4 _ _ _ _ _ _ _ _ _ _)
   | (with_reducible exact ih5 _ _ _ _ _ _ _ _ _ _)
   | (with_reducible exact bluebellref02_Quote.mono _ _)
   | (with_reducible exact LeO.refl _)
   | (with_reducible exact LeO.none _)
   | (with_reducible refine LeO.ite ?_ ?_)
   | (with_reducible refine LeO.bind ?_ (fun _ => ?_))
   | exact ih0 _ _ _ _ _ _ _
   | exact ih1 _ _ _ _ _ _ _ _ _ _ _
   | exact ih2 _ _ _ _ _ _ _ _ _ _ _
   | exact ih3 _ _ _ _ _ _ _
   | exact ih4 _ _ _ _ _ _ _ _ _ _
   | exact ih5 _ _ _ _ _ _ _ _ _ _
   | exact bluebellref02_Quote.mono _ _
   | exact LeO.none _
   | refine LeO.ite ?_ ?_
   | refine LeO.bind ?_ (fun _ => ?_)
  ·intro y0 y1 y2 y3 y4 y5 y6 y7 y8 y9 y10
   unfold bluebellref06_areas.j1
   repeat' first
   | (with_reducible exact ih0 _ _ _ _ _ _ _)
   | (with_reducible exact ih1 _ _ _ _ _ _ _ _ _ _ _)
   | (with_reducible exact ih2 _ _ _ _ _ _ _ _ _ _ _)
   | (with_reducible exact ih3 _ _ _ _ _ _ _)
   | (with_reducible exact ih4 _ _ _ _ _ _ _ _ _ _)
   | (with_reducible exact ih5 _ _ _ _ _ _ _ _ _ _)
   | (with_reducible exact bluebellref02_Quote.mono _ _)
   | (with_reducible exact LeO.refl _)
   | (with_reducible exact LeO.none _)
   | (with_reducible refine LeO.ite ?_ ?_)
   | (with_reducible refine LeO.bind ?_ (fun _ => ?_))
   | exact ih0 _ _ _ _ _ _ _
   | exact ih1 _ _ _ _ _ _ _ _ _ _ _
   | exact ih2 _ _ _ _ _ _ _ _ _ _ _
   | exact ih3 _ _ _ _ _ _ _
   | exact ih4 _ _ _ _ _ _ _ _ _ _
   | exact ih5 _ _ _ _ _ _ _ _ _ _
   | exact bluebellref02_Quote.mono _ _
   | exact LeO.none _
   | refine LeO.ite ?_ ?_
   | refine LeO.bind ?_ (fun _ => ?_)
  ·intro y0 y1 y2 y3 y4 y5 y6 y7 y8 y9 y10
   unfold bluebellref06_areas.l1
   repeat' first
   | (with_reducible exact ih0 _ _ _ _ _ _ _)
   | (with_reducible exact ih1 _ _ _ _ _ _ _ _ _ _ _)
   | (with_reducible exact ih2 _ _ _ _ _ _ _ _ _ _ _)
   | (with_reducible exact ih3 _ _ _ _ _ _ _)
   | (with_reducible exact ih4 _ _ _ _ _ _ _ _ _ _)
   | (with_reducible exact ih5 _ _ _ _ _ _ _ _ _ _)
   | (with_reducible exact bluebellref02_Quote.mono _ _)
   | (with_reducible exact LeO.refl _)
   | (with_reducible exact LeO.none _)
   | (with_reducible refine LeO.ite ?_ ?_)
   | (with_reducible refine LeO.bind ?_ (fun _ => ?_))
   | exact ih0 _ _ _ _ _ _ _
   | exact ih1 _ _ _ _ _ _ _ _ _ _ _
   | exact ih2 _ _ _ _ _ _ _ _ _ _ _
   | exact ih3 _ _ _ _ _ _ _
   | exact ih4 _ _ _ _ _ _ _ _ _ _
   | exact ih5 _ _ _ _ _ _ _ _ _ _
   | exact bluebellref02_Quote.mono _ _
   | exact LeO.none _
   | refine LeO.ite ?_ ?_
   | refine LeO.bind ?_ (fun _ => ?_)
  ·intro y0 y1 y2 y3 y4 y5 y6
   unfold bluebellref06_areas.l2
   repeat' first
   | (with_reducible exact ih0 _ _ _ _ _ _ _)
   | (with_reducible exact ih1 _ _ _ _ _ _ _ _ _ _ _)
   | (with_reducible exact ih2 _ _ _ _ _ _ _ _ _ _ _)
   | (with_reducible exact ih3 _ _ _ _ _ _ _)
   | (with_reducible exact ih4 _ _ _ _ _ _ _ _ _ _)
   | (with_reducible exact ih5 _ _ _ _ _ _ _ _ _ _)
   | (with_reducible exact bluebellref02_Quote.mono _ _)
   | (with_reducible exact LeO.refl _)
   | (with_reducible exact LeO.none _)
   | (with_reducible refine LeO.ite ?_ ?_)
   | (with_reducible refine LeO.bind ?_ (fun _ => ?_))
   | exact ih0 _ _ _ _ _ _ _
   | exact ih1 _ _ _ _ _ _ _ _ _ _ _
   | exact ih2 _ _ _ _ _ _ _ _ _ _ _
   | exact ih3 _ _ _ _ _ _ _
   | exact ih4 _ _ _ _ _ _ _ _ _ _
   | exact ih5 _ _ _ _ _ _ _ _ _ _
   | exact bluebellref02_Quote.mono _ _
   | exact LeO.none _
   | refine LeO.ite ?_ ?_
   | refine LeO.bind ?_ (fun _ => ?_)
  ·intro y0 y1 y2 y3 y4 y5 y6 y7 y8 y9
   unfold bluebellref06_areas.j4
   repeat' first
   | (with_reducible exact ih0 _ _ _ _ _ _ _)
   | (with_reducible exact ih1 _ _ _ _ _ _ _ _ _ _ _)
   | (with_reducible exact ih2 _ _ _ _ _ _ _ _ _ _ _)
   | (with_reducible exact ih3 _ _ _ _ _ _ _)
   | (with_reducible exact ih4 _ _ _ _ _ _ _ _ _ _)
   | (with_reducible exact ih5 _ _ _ _ _ _ _ _ _ _)
   | (with_reducible exact bluebellref02_Quote.mono _ _)
   | (with_reducible exact LeO.refl _)
   | (with_reducible exact LeO.none _)
   | (with_reducible refine LeO.ite ?_ ?_)
   | (with_reducible refine LeO.bind ?_ (fun _ => ?_))
   | exact ih0 _ _ _ _ _ _ _
   | exact ih1 _ _ _ _ _ _ _ _ _ _ _
   | exact ih2 _ _ _ _ _ _ _ _ _ _ _
   | exact ih3 _ _ _ _ _ _ _
   | exact ih4 _ _ _ _ _ _ _ _ _ _
   | exact ih5 _ _ _ _ _ _ _ _ _ _
   | exact bluebellref02_Quote.mono _ _
   | exact LeO.none _
   | refine LeO.ite ?_ ?_
   | refine LeO.bind ?_ (fun _ => ?_)
  ·intro y0 y1 y2 y3 y4 y5 y6 y7 y8 y9
   unfold bluebellref06_areas.l3
   repeat' first
   | (with_reducible exact ih0 _ _ _ _ _ _ _)
   | (with_reducible exact ih1 _ _ _ _ _ _ _ _ _ _ _)
   | (with_reducible exact ih2 _ _ _ _ _ _ _ _ _ _ _)
   | (with_reducible exact ih3 _ _ _ _ _ _ _)
   | (with_reducible exact ih4 _ _ _ _ _ _ _ _ _ _)
   | (with_reducible exact ih5 _ _ _ _ _ _ _ _ _ _)
   | (with_reducible exact bluebellref02_Quote.mono _ _)
   | (with_reducible exact LeO.refl _)
   | (with_reducible exact LeO.none _)
   | (with_reducible refine LeO.ite ?_ ?_)
   | (with_reducible refine LeO.bind ?_ (fun _ => ?_))
   | exact ih0 _ _ _ _ _ _ _
   | exact ih1 _ _ _ _ _ _ _ _ _ _ _
   | exact ih2 _ _ _ _ _ _ _ _ _ _ _
   | exact ih3 _ _ _ _ _ _ _
   | exact ih4 _ _ _ _ _ _ _ _ _ _
   | exact ih5 _ _ _ _ _ _ _ _ _ _
   | exact bluebellref02_Quote.mono _ _
   | exact LeO.none _
   | refine LeO.ite ?_ ?_
   | refine LeO.bind ?_ (fun _ => ?_)
theorem bluebellref06_areas.mono : ∀ a0 a1 a2 a3 a4 a5 k, LeO (bluebellref06_areas.f k a0 a1 a2 a3 a4 a5) (bluebellref06_areas.f (k + 1) a0 a1 a2 a3 a4 a5) := by
 intro a0 a1 a2 a3 a4 a5 k
 obtain ⟨ih0, ih1, ih2, ih3, ih4, ih5⟩ := bluebellref06_areas.mono_l k
 unfold bluebellref06_areas.f
 repeat' first
   | (with_reducible exact ih0 _ _ _ _ _ _ _)
   | (with_reducible exact ih1 _ _ _ _ _ _ _ _ _ _ _)
   | (with_reducible exact ih2 _ _ _ _ _ _ _ _ _ _ _)
   | (with_reducible exact ih3 _ _ _ _ _ _ _)
   | (with_reducible exact ih4 _ _ _ _ _ _ _ _ _ _)
   | (with_reducible exact ih5 _ _ _ _ _ _ _ _ _ _)
   | (with_reducible exact bluebellref02_Quote.mono _ _)
   | (with_reducible exact LeO.refl _)
   | (with_reducible exact LeO.none _)
   | (with_reducible refine LeO.ite ?_ ?_)
   | (with_reducible refine LeO.bind ?_ (fun _ => ?_))
   | exact ih0 _ _ _ _ _ _ _
   | exact ih1 _ _ _ _ _ _ _ _ _ _ _
   | exact ih2 _ _ _ _ _ _ _ _ _ _ _
   | exact ih3 _ _ _ _ _ _ _
   | exact ih4 _ _ _ _ _ _ _ _ _ _
   | exact ih5 _ _ _ _ _ _ _ _ _ _
   | exact bluebellref02_Quote.mono _ _
   | exact LeO.none _
   | refine LeO.ite ?_ ?_
   | refine LeO.bind ?_ (fun _ => ?_)
set_option maxHeartbeats 8000000 in
set_option maxRecDepth 100000 in
theorem bluebellref06_areas.calls (k : Nat) (a0_0 : ByteArray) (A0_1 : Option Addr) (c0_1 : Nat) (l0_1 : List (S47)) (A0_2 : Option Addr) (c0_2 : Nat) (l0_2 : List (S35)) (A0_3 : Option Addr) (c0_3 : Nat) (l0_3 : List (S68)) (a0_4 : Int) (a0_5 : Int) (r : Bool) (w : World) (hr0_1 : Kd.C k47 w A0_1 l0_1.length l0_1) (hc0_1 : l0_1.length ≤ c0_1) (hr0_2 : Kd.C k35 w A0_2 l0_2.length l0_2) (hc0_2 : l0_2.length ≤ c0_2) (hr0_3 : Kd.C k68 w A0_3 l0_3.length l0_3) (hc0_3 : l0_3.length ≤ c0_3) (h : bluebellref06_areas.f k a0_0 l0_1 l0_2 l0_3 a0_4 a0_5 = some r) :
  Calls Try.prog 43 #[.agg #[.string a0_0, .slice A0_1 l0_1.length c0_1, .slice A0_2 l0_2.length c0_2, .slice A0_3 l0_3.length c0_3, .int .i64 a0_4, .int .i64 a0_5]] w fun e w' => e = .returned (.bool r) ∧ Below w.heap.size w w' := by
 have hu26 := Try.underlying26
 have hu47 := Try.underlying47
 have hu68 := Try.underlying68
 have HR0_1 := Aside0.mk hr0_1
 have HC0_1 := Aside0.mk hc0_1
 clear hr0_1 hc0_1
 have HR0_2 := Aside0.mk hr0_2
 have HC0_2 := Aside0.mk hc0_2
 clear hr0_2 hc0_2
 have HR0_3 := Aside0.mk hr0_3
 have HC0_3 := Aside0.mk hc0_3
 clear hr0_3 hc0_3
 have HB := Aside0.mk (Below.refl w.heap.size w)
 have H : (bluebellref06_areas.l0 k 0 a0_0 l0_1 l0_2 l0_3 a0_4 a0_5) = some r := h
 clear h
 have H' := Aside0.mk H
 clear H
 go_enter Try.func43, Try.ntmps43
 go_wp2_with (first | ((with_reducible refine gate_dst (N := 1) rfl ?_); (try (refine gate_guard (by rfl) ?_; dsimp only)); refine boxev (N := 1) (cs := #[.string a0_0, .slice A0_1 l0_1.length c0_1, .slice A0_2 l0_2.length c0_2, .slice A0_3 l0_3.length c0_3, .int .i64 a0_4, .int .i64 a0_5]) (t := 26) ?_; intro gb362 hg w2 hbox hb; have BK362 := Aside0.mk (hbox); have GW362 := Aside0.mk ((by rw [hg]; exact bsz : w.heap.size ≤ gb362)); have GE362 := Aside0.mk ((by rw [hg]; exact bsz : w.heap.size ≤ gb362)); replace HB := Aside0.mk (bstep hb); clear hb hbox hg))
 repeat (go_quiet (first | ((with_reducible refine gate_dst (N := 1) rfl ?_); (try (refine gate_guard (by rfl) ?_; dsimp only)); refine boxev (N := 1) (cs := #[.string a0_0, .slice A0_1 l0_1.length c0_1, .slice A0_2 l0_2.length c0_2, .slice A0_3 l0_3.length c0_3, .int .i64 a0_4, .int .i64 a0_5]) (t := 26) ?_; intro gb362 hg w2 hbox hb; have BK362 := Aside0.mk (hbox); have GW362 := Aside0.mk ((by rw [hg]; exact bsz : w.heap.size ≤ gb362)); have GE362 := Aside0.mk ((by rw [hg]; exact bsz : w.heap.size ≤ gb362)); replace HB := Aside0.mk (bstep hb); clear hb hbox hg)); try go_wp2_with (first | ((with_reducible refine gate_dst (N := 1) rfl ?_); (try (refine gate_guard (by rfl) ?_; dsimp only)); refine boxev (N := 1) (cs := #[.string a0_0, .slice A0_1 l0_1.length c0_1, .slice A0_2 l0_2.length c0_2, .slice A0_3 l0_3.length c0_3, .int .i64 a0_4, .int .i64 a0_5]) (t := 26) ?_; intro gb362 hg w2 hbox hb; have BK362 := Aside0.mk (hbox); have GW362 := Aside0.mk ((by rw [hg]; exact bsz : w.heap.size ≤ gb362)); have GE362 := Aside0.mk ((by rw [hg]; exact bsz : w.heap.size ≤ gb362)); replace HB := Aside0.mk (bstep hb); clear hb hbox hg)))
 go_loopg [3] k (fun kq v3 w' => ∃ (x3_1 : Int), v3 = .int .i64 x3_1 ∧ Aside0 (bluebellref06_areas.l0 kq x3_1 a0_0 l0_1 l0_2 l0_3 a0_4 a0_5 = some r) ∧ Aside0 (kq ≤ k) ∧ Aside0 (w'.heap[gb362]? = some (.cells #[.string a0_0, (.slice A0_1 l0_1.length c0_1), (.slice A0_2 l0_2.length c0_2), (.slice A0_3 l0_3.length c0_3), .int .i64 a0_4, .int .i64 a0_5] 26 (0, 0))) ∧ Aside0 (Below w.heap.size w w'))
 case atStart => exact ⟨(0), wrE, H', ⟨Nat.le_refl _⟩, ⟨bk⟩, ⟨bw⟩⟩
 case round =>
  clear H'
  obtain ⟨x3_1, rfl, HA, HK1, BK362, HB⟩ := hrel
  cases gk with
  | zero => exact absurd HA.out (by simp [bluebellref06_areas.l0])
  | succ k1 =>
   have H := HA.out
   clear HA
   simp only [bluebellref06_areas.l0] at H
   by_cases c3 : x3_1 < (l0_1.length : Int)
   ·rw [if_pos c3] at H
    have c3b0 : decide (x3_1 < (l0_1.length : Int)) = true := decide_eq_true c3
    clear c3
    by_cases c4 : 0 ≤ x3_1
    rotate_left
    ·rw [if_neg c4] at H
     exact absurd H (by simp)
    rw [if_pos c4] at H
    have c4b0 : decide (0 ≤ x3_1) = true := decide_eq_true c4
    clear c4
    obtain ⟨bq5, hbq5⟩ : ∃ b_ : Bool, b_ = ((rd_T47 l0_1 x3_1).f1) := ⟨_, rfl⟩
    replace H : (if bq5 = true then ((bluebellref02_Quote.f k1 ((rd_T47 l0_1 x3_1).f0)).bind fun bt365 => (if bt365.2 = 0 then (if (((rd_T47 l0_1 x3_1).f2).length : Int) > 0 then (some false) else (bluebellref06_areas.l0 k1 (wrap64 (x3_1 + 1)) a0_0 l0_1 l0_2 l0_3 a0_4 a0_5)) else (some false))) else (if ((rd_T47 l0_1 x3_1).f0).toList = ([] : List UInt8) then (bluebellref06_areas.j1 k1 x3_1 ((((rd_T47 l0_1 x3_1).f2).length : Int) == 0) a0_0 l0_1 l0_2 l0_3 a0_4 a0_5 ((rd_T47 l0_1 x3_1).f0) bq5 ((rd_T47 l0_1 x3_1).f2)) else (bluebellref06_areas.j1 k1 x3_1 true a0_0 l0_1 l0_2 l0_3 a0_4 a0_5 ((rd_T47 l0_1 x3_1).f0) bq5 ((rd_T47 l0_1 x3_1).f2)))) = some r := by rw [← hbq5] at H; exact H
    have Nbq5 := Aside0.mk hbq5
    clear hbq5
    by_cases c6 : bq5 = true
    ·subst c6
     have H1 : ((bluebellref02_Quote.f k1 ((rd_T47 l0_1 x3_1).f0)).bind fun bt365 => (if bt365.2 = 0 then (if (((rd_T47 l0_1 x3_1).f2).length : Int) > 0 then (some false) else (bluebellref06_areas.l0 k1 (wrap64 (x3_1 + 1)) a0_0 l0_1 l0_2 l0_3 a0_4 a0_5)) else (some false))) = some r := by rw [if_pos rfl] at H; exact H
     clear H
     have H := H1
     clear H1
     replace H := Option.bind_eq_some_iff.mp H
     obtain ⟨⟨t365, t366⟩, A70, H⟩ := H
     replace H : (if t366 = 0 then (if (((rd_T47 l0_1 x3_1).f2).length : Int) > 0 then (some false) else (bluebellref06_areas.l0 k1 (wrap64 (x3_1 + 1)) a0_0 l0_1 l0_2 l0_3 a0_4 a0_5)) else (some false)) = some r := H
     have A7 := Aside0.mk A70
     clear A70
     by_cases c8 : t366 = 0
     ·rw [if_pos c8] at H
      have c8b0 : (t366 == 0) = true := beq_iff_eq.mpr c8
      have c8b1 : (t366 != 0) = false := bne_eq_false_iff_eq.mpr c8
      clear c8
      by_cases c9 : (((rd_T47 l0_1 x3_1).f2).length : Int) > 0
      ·rw [if_pos c9] at H
       have c9b0 : decide (0 < (((rd_T47 l0_1 x3_1).f2).length : Int)) = true := decide_eq_true c9
       have c9b1 : decide (0 < ((rd_T47 l0_1 x3_1).f2).length) = true := decide_eq_true (by omega)
       clear c9
       obtain rfl := Option.some.inj H
       obtain ⟨z10_0, z10_1, z10_2, z10_3, z10_4, z10_5, y10_0, y10_1, y10_2, y10_3, y10_4, y10_5⟩ := cells6 BK362.out
       have p363 : 0 ≤ (x3_1 : Int) := ofd
       have q363 : x3_1 < (l0_1.length : Int) := ofd
       obtain ⟨ad363, A363_2, c363_2, e363, hx363_0, hx363_1, hx363_2, hl363_2, hi363_2⟩ := at_T47 HR0_1.out x3_1 p363 q363
       (try rw [← Nbq5.out] at hx363_1)
       cases e363
       replace hx363_0 := hxE HB.out hx363_0
       replace hx363_1 := hxE HB.out hx363_1
       replace hx363_2 := hxE HB.out hx363_2
       have HR363_2 := Aside0.mk hi363_2
       have HC363_2 := Aside0.mk hl363_2
       clear hi363_2 hl363_2
       replace p363 := eq_true p363
       replace q363 := eq_true q363
       go_wp2_with (first | ((with_reducible refine gate_dst (N := 4) rfl ?_); (try (refine gate_guard (by rfl) ?_; dsimp only)); refine boxev (N := 4) (cs := #[.string (⟨#[]⟩ : ByteArray), .bool false, .slice none 0 0]) (t := 47) ?_; intro gb364 hg w11 hbox hb; have BK364 := Aside0.mk (hbox); have GW364 := Aside0.mk ((by rw [hg]; exact bsz : w.heap.size ≤ gb364)); have GE364 := Aside0.mk ((by rw [hg]; exact bsz : w.heap.size ≤ gb364)); have NB362_364 := Aside0.mk ((by rw [hg]; exact Nat.ne_of_lt (bkl (g := gb362)) : gb362 ≠ gb364)); have NB364_362 := Aside0.mk ((by rw [hg]; exact Nat.ne_of_gt (bkl (g := gb362)) : gb364 ≠ gb362)); replace BK362 := Aside0.mk (bkb (g := gb362) hb); replace HB := Aside0.mk (bstep hb); clear hb hbox hg; have hnb12 := NB364_362.out; have hnc12 := NB362_364.out; obtain ⟨z13_0, z13_1, z13_2, y13_0, y13_1, y13_2⟩ := cells3 BK364.out) | (go_at_call 70; (with_reducible refine (bluebellref02_Quote.calls k1 ((rd_T47 l0_1 x3_1).f0) t365 t366 _ A7.out).mono ?_); rintro e w' ⟨rfl, ⟨nd, rfl⟩⟩; (try first | exact ⟨rfl, _, World.drewN_drewN _ _ _⟩ | exact ⟨rfl, _, Eq.trans (World.drewN_drewN _ _ _) (congrArg (World.drewN _) (Nat.add_assoc _ _ _))⟩)))
       repeat (go_quiet (first | ((with_reducible refine gate_dst (N := 4) rfl ?_); (try (refine gate_guard (by rfl) ?_; dsimp only)); refine boxev (N := 4) (cs := #[.string (⟨#[]⟩ : ByteArray), .bool false, .slice none 0 0]) (t := 47) ?_; intro gb364 hg w11 hbox hb; have BK364 := Aside0.mk (hbox); have GW364 := Aside0.mk ((by rw [hg]; exact bsz : w.heap.size ≤ gb364)); have GE364 := Aside0.mk ((by rw [hg]; exact bsz : w.heap.size ≤ gb364)); have NB362_364 := Aside0.mk ((by rw [hg]; exact Nat.ne_of_lt (bkl (g := gb362)) : gb362 ≠ gb364)); have NB364_362 := Aside0.mk ((by rw [hg]; exact Nat.ne_of_gt (bkl (g := gb362)) : gb364 ≠ gb362)); replace BK362 := Aside0.mk (bkb (g := gb362) hb); replace HB := Aside0.mk (bstep hb); clear hb hbox hg; have hnb12 := NB364_362.out; have hnc12 := NB362_364.out; obtain ⟨z13_0, z13_1, z13_2, y13_0, y13_1, y13_2⟩ := cells3 BK364.out) | (go_at_call 70; (with_reducible refine (bluebellref02_Quote.calls k1 ((rd_T47 l0_1 x3_1).f0) t365 t366 _ A7.out).mono ?_); rintro e w' ⟨rfl, ⟨nd, rfl⟩⟩; (try first | exact ⟨rfl, _, World.drewN_drewN _ _ _⟩ | exact ⟨rfl, _, Eq.trans (World.drewN_drewN _ _ _) (congrArg (World.drewN _) (Nat.add_assoc _ _ _))⟩))); try go_wp2_with (first | ((with_reducible refine gate_dst (N := 4) rfl ?_); (try (refine gate_guard (by rfl) ?_; dsimp only)); refine boxev (N := 4) (cs := #[.string (⟨#[]⟩ : ByteArray), .bool false, .slice none 0 0]) (t := 47) ?_; intro gb364 hg w11 hbox hb; have BK364 := Aside0.mk (hbox); have GW364 := Aside0.mk ((by rw [hg]; exact bsz : w.heap.size ≤ gb364)); have GE364 := Aside0.mk ((by rw [hg]; exact bsz : w.heap.size ≤ gb364)); have NB362_364 := Aside0.mk ((by rw [hg]; exact Nat.ne_of_lt (bkl (g := gb362)) : gb362 ≠ gb364)); have NB364_362 := Aside0.mk ((by rw [hg]; exact Nat.ne_of_gt (bkl (g := gb362)) : gb364 ≠ gb362)); replace BK362 := Aside0.mk (bkb (g := gb362) hb); replace HB := Aside0.mk (bstep hb); clear hb hbox hg; have hnb12 := NB364_362.out; have hnc12 := NB362_364.out; obtain ⟨z13_0, z13_1, z13_2, y13_0, y13_1, y13_2⟩ := cells3 BK364.out) | (go_at_call 70; (with_reducible refine (bluebellref02_Quote.calls k1 ((rd_T47 l0_1 x3_1).f0) t365 t366 _ A7.out).mono ?_); rintro e w' ⟨rfl, ⟨nd, rfl⟩⟩; (try first | exact ⟨rfl, _, World.drewN_drewN _ _ _⟩ | exact ⟨rfl, _, Eq.trans (World.drewN_drewN _ _ _) (congrArg (World.drewN _) (Nat.add_assoc _ _ _))⟩))))
       go_ret
       exact ⟨erE, bw⟩
      ·rw [if_neg c9] at H
       have c9b0 : decide (0 < (((rd_T47 l0_1 x3_1).f2).length : Int)) = false := decide_eq_false c9
       have c9b1 : decide (0 < ((rd_T47 l0_1 x3_1).f2).length) = false := decide_eq_false (by omega)
       clear c9
       have H' := Aside0.mk H
       clear H
       obtain ⟨z14_0, z14_1, z14_2, z14_3, z14_4, z14_5, y14_0, y14_1, y14_2, y14_3, y14_4, y14_5⟩ := cells6 BK362.out
       have p363 : 0 ≤ (x3_1 : Int) := ofd
       have q363 : x3_1 < (l0_1.length : Int) := ofd
       obtain ⟨ad363, A363_2, c363_2, e363, hx363_0, hx363_1, hx363_2, hl363_2, hi363_2⟩ := at_T47 HR0_1.out x3_1 p363 q363
       (try rw [← Nbq5.out] at hx363_1)
       cases e363
       replace hx363_0 := hxE HB.out hx363_0
       replace hx363_1 := hxE HB.out hx363_1
       replace hx363_2 := hxE HB.out hx363_2
       have HR363_2 := Aside0.mk hi363_2
       have HC363_2 := Aside0.mk hl363_2
       clear hi363_2 hl363_2
       replace p363 := eq_true p363
       replace q363 := eq_true q363
       go_wp2_with (first | ((with_reducible refine gate_dst (N := 4) rfl ?_); (try (refine gate_guard (by rfl) ?_; dsimp only)); refine boxev (N := 4) (cs := #[.string (⟨#[]⟩ : ByteArray), .bool false, .slice none 0 0]) (t := 47) ?_; intro gb364 hg w15 hbox hb; have BK364 := Aside0.mk (hbox); have GW364 := Aside0.mk ((by rw [hg]; exact bsz : w.heap.size ≤ gb364)); have GE364 := Aside0.mk ((by rw [hg]; exact bsz : w.heap.size ≤ gb364)); have NB362_364 := Aside0.mk ((by rw [hg]; exact Nat.ne_of_lt (bkl (g := gb362)) : gb362 ≠ gb364)); have NB364_362 := Aside0.mk ((by rw [hg]; exact Nat.ne_of_gt (bkl (g := gb362)) : gb364 ≠ gb362)); replace BK362 := Aside0.mk (bkb (g := gb362) hb); replace HB := Aside0.mk (bstep hb); clear hb hbox hg; have hnb16 := NB364_362.out; have hnc16 := NB362_364.out; obtain ⟨z17_0, z17_1, z17_2, y17_0, y17_1, y17_2⟩ := cells3 BK364.out) | (go_at_call 70; (with_reducible refine (bluebellref02_Quote.calls k1 ((rd_T47 l0_1 x3_1).f0) t365 t366 _ A7.out).mono ?_); rintro e w' ⟨rfl, ⟨nd, rfl⟩⟩; (try first | exact ⟨rfl, _, World.drewN_drewN _ _ _⟩ | exact ⟨rfl, _, Eq.trans (World.drewN_drewN _ _ _) (congrArg (World.drewN _) (Nat.add_assoc _ _ _))⟩)))
       repeat (go_quiet (first | ((with_reducible refine gate_dst (N := 4) rfl ?_); (try (refine gate_guard (by rfl) ?_; dsimp only)); refine boxev (N := 4) (cs := #[.string (⟨#[]⟩ : ByteArray), .bool false, .slice none 0 0]) (t := 47) ?_; intro gb364 hg w15 hbox hb; have BK364 := Aside0.mk (hbox); have GW364 := Aside0.mk ((by rw [hg]; exact bsz : w.heap.size ≤ gb364)); have GE364 := Aside0.mk ((by rw [hg]; exact bsz : w.heap.size ≤ gb364)); have NB362_364 := Aside0.mk ((by rw [hg]; exact Nat.ne_of_lt (bkl (g := gb362)) : gb362 ≠ gb364)); have NB364_362 := Aside0.mk ((by rw [hg]; exact Nat.ne_of_gt (bkl (g := gb362)) : gb364 ≠ gb362)); replace BK362 := Aside0.mk (bkb (g := gb362) hb); replace HB := Aside0.mk (bstep hb); clear hb hbox hg; have hnb16 := NB364_362.out; have hnc16 := NB362_364.out; obtain ⟨z17_0, z17_1, z17_2, y17_0, y17_1, y17_2⟩ := cells3 BK364.out) | (go_at_call 70; (with_reducible refine (bluebellref02_Quote.calls k1 ((rd_T47 l0_1 x3_1).f0) t365 t366 _ A7.out).mono ?_); rintro e w' ⟨rfl, ⟨nd, rfl⟩⟩; (try first | exact ⟨rfl, _, World.drewN_drewN _ _ _⟩ | exact ⟨rfl, _, Eq.trans (World.drewN_drewN _ _ _) (congrArg (World.drewN _) (Nat.add_assoc _ _ _))⟩))); try go_wp2_with (first | ((with_reducible refine gate_dst (N := 4) rfl ?_); (try (refine gate_guard (by rfl) ?_; dsimp only)); refine boxev (N := 4) (cs := #[.string (⟨#[]⟩ : ByteArray), .bool false, .slice none 0 0]) (t := 47) ?_; intro gb364 hg w15 hbox hb; have BK364 := Aside0.mk (hbox); have GW364 := Aside0.mk ((by rw [hg]; exact bsz : w.heap.size ≤ gb364)); have GE364 := Aside0.mk ((by rw [hg]; exact bsz : w.heap.size ≤ gb364)); have NB362_364 := Aside0.mk ((by rw [hg]; exact Nat.ne_of_lt (bkl (g := gb362)) : gb362 ≠ gb364)); have NB364_362 := Aside0.mk ((by rw [hg]; exact Nat.ne_of_gt (bkl (g := gb362)) : gb364 ≠ gb362)); replace BK362 := Aside0.mk (bkb (g := gb362) hb); replace HB := Aside0.mk (bstep hb); clear hb hbox hg; have hnb16 := NB364_362.out; have hnc16 := NB362_364.out; obtain ⟨z17_0, z17_1, z17_2, y17_0, y17_1, y17_2⟩ := cells3 BK364.out) | (go_at_call 70; (with_reducible refine (bluebellref02_Quote.calls k1 ((rd_T47 l0_1 x3_1).f0) t365 t366 _ A7.out).mono ?_); rintro e w' ⟨rfl, ⟨nd, rfl⟩⟩; (try first | exact ⟨rfl, _, World.drewN_drewN _ _ _⟩ | exact ⟨rfl, _, Eq.trans (World.drewN_drewN _ _ _) (congrArg (World.drewN _) (Nat.add_assoc _ _ _))⟩))))
       go_roundg k1
       case measure => have := HK1.out; omega
       case rel => exact ⟨(wrap64 (x3_1 + 1)), wrE, H', ⟨by have := HK1.out; omega⟩, ⟨by (with_reducible repeat (first | refine blk_drewN ?_ _ | refine blk_drew ?_ | refine blk_alloc ?_ _)); refine blk_far ?_ NB362_364.out _; (with_reducible repeat (first | refine blk_drewN ?_ _ | refine blk_drew ?_ | refine blk_alloc ?_ _)); refine blk_far ?_ NB362_364.out _; (with_reducible repeat (first | refine blk_drewN ?_ _ | refine blk_drew ?_ | refine blk_alloc ?_ _)); refine blk_far ?_ NB362_364.out _; (with_reducible repeat (first | refine blk_drewN ?_ _ | refine blk_drew ?_ | refine blk_alloc ?_ _)); exact BK362.out⟩, ⟨bw⟩⟩
     ·rw [if_neg c8] at H
      have c8b0 : (t366 == 0) = false := beq_eq_false_iff_ne.mpr c8
      have c8b1 : (t366 != 0) = true := bne_iff_ne.mpr c8
      obtain rfl := Option.some.inj H
      obtain ⟨z18_0, z18_1, z18_2, z18_3, z18_4, z18_5, y18_0, y18_1, y18_2, y18_3, y18_4, y18_5⟩ := cells6 BK362.out
      have p363 : 0 ≤ (x3_1 : Int) := ofd
      have q363 : x3_1 < (l0_1.length : Int) := ofd
      obtain ⟨ad363, A363_2, c363_2, e363, hx363_0, hx363_1, hx363_2, hl363_2, hi363_2⟩ := at_T47 HR0_1.out x3_1 p363 q363
      (try rw [← Nbq5.out] at hx363_1)
      cases e363
      replace hx363_0 := hxE HB.out hx363_0
      replace hx363_1 := hxE HB.out hx363_1
      replace hx363_2 := hxE HB.out hx363_2
      have HR363_2 := Aside0.mk hi363_2
      have HC363_2 := Aside0.mk hl363_2
      clear hi363_2 hl363_2
      replace p363 := eq_true p363
      replace q363 := eq_true q363
      go_wp2_with (first | ((with_reducible refine gate_dst (N := 4) rfl ?_); (try (refine gate_guard (by rfl) ?_; dsimp only)); refine boxev (N := 4) (cs := #[.string (⟨#[]⟩ : ByteArray), .bool false, .slice none 0 0]) (t := 47) ?_; intro gb364 hg w19 hbox hb; have BK364 := Aside0.mk (hbox); have GW364 := Aside0.mk ((by rw [hg]; exact bsz : w.heap.size ≤ gb364)); have GE364 := Aside0.mk ((by rw [hg]; exact bsz : w.heap.size ≤ gb364)); have NB362_364 := Aside0.mk ((by rw [hg]; exact Nat.ne_of_lt (bkl (g := gb362)) : gb362 ≠ gb364)); have NB364_362 := Aside0.mk ((by rw [hg]; exact Nat.ne_of_gt (bkl (g := gb362)) : gb364 ≠ gb362)); replace BK362 := Aside0.mk (bkb (g := gb362) hb); replace HB := Aside0.mk (bstep hb); clear hb hbox hg; have hnb20 := NB364_362.out; have hnc20 := NB362_364.out; obtain ⟨z21_0, z21_1, z21_2, y21_0, y21_1, y21_2⟩ := cells3 BK364.out) | (go_at_call 70; (with_reducible refine (bluebellref02_Quote.calls k1 ((rd_T47 l0_1 x3_1).f0) t365 t366 _ A7.out).mono ?_); rintro e w' ⟨rfl, ⟨nd, rfl⟩⟩; (try first | exact ⟨rfl, _, World.drewN_drewN _ _ _⟩ | exact ⟨rfl, _, Eq.trans (World.drewN_drewN _ _ _) (congrArg (World.drewN _) (Nat.add_assoc _ _ _))⟩)))
      repeat (go_quiet (first | ((with_reducible refine gate_dst (N := 4) rfl ?_); (try (refine gate_guard (by rfl) ?_; dsimp only)); refine boxev (N := 4) (cs := #[.string (⟨#[]⟩ : ByteArray), .bool false, .slice none 0 0]) (t := 47) ?_; intro gb364 hg w19 hbox hb; have BK364 := Aside0.mk (hbox); have GW364 := Aside0.mk ((by rw [hg]; exact bsz : w.heap.size ≤ gb364)); have GE364 := Aside0.mk ((by rw [hg]; exact bsz : w.heap.size ≤ gb364)); have NB362_364 := Aside0.mk ((by rw [hg]; exact Nat.ne_of_lt (bkl (g := gb362)) : gb362 ≠ gb364)); have NB364_362 := Aside0.mk ((by rw [hg]; exact Nat.ne_of_gt (bkl (g := gb362)) : gb364 ≠ gb362)); replace BK362 := Aside0.mk (bkb (g := gb362) hb); replace HB := Aside0.mk (bstep hb); clear hb hbox hg; have hnb20 := NB364_362.out; have hnc20 := NB362_364.out; obtain ⟨z21_0, z21_1, z21_2, y21_0, y21_1, y21_2⟩ := cells3 BK364.out) | (go_at_call 70; (with_reducible refine (bluebellref02_Quote.calls k1 ((rd_T47 l0_1 x3_1).f0) t365 t366 _ A7.out).mono ?_); rintro e w' ⟨rfl, ⟨nd, rfl⟩⟩; (try first | exact ⟨rfl, _, World.drewN_drewN _ _ _⟩ | exact ⟨rfl, _, Eq.trans (World.drewN_drewN _ _ _) (congrArg (World.drewN _) (Nat.add_assoc _ _ _))⟩))); try go_wp2_with (first | ((with_reducible refine gate_dst (N := 4) rfl ?_); (try (refine gate_guard (by rfl) ?_; dsimp only)); refine boxev (N := 4) (cs := #[.string (⟨#[]⟩ : ByteArray), .bool false, .slice none 0 0]) (t := 47) ?_; intro gb364 hg w19 hbox hb; have BK364 := Aside0.mk (hbox); have GW364 := Aside0.mk ((by rw [hg]; exact bsz : w.heap.size ≤ gb364)); have GE364 := Aside0.mk ((by rw [hg]; exact bsz : w.heap.size ≤ gb364)); have NB362_364 := Aside0.mk ((by rw [hg]; exact Nat.ne_of_lt (bkl (g := gb362)) : gb362 ≠ gb364)); have NB364_362 := Aside0.mk ((by rw [hg]; exact Nat.ne_of_gt (bkl (g := gb362)) : gb364 ≠ gb362)); replace BK362 := Aside0.mk (bkb (g := gb362) hb); replace HB := Aside0.mk (bstep hb); clear hb hbox hg; have hnb20 := NB364_362.out; have hnc20 := NB362_364.out; obtain ⟨z21_0, z21_1, z21_2, y21_0, y21_1, y21_2⟩ := cells3 BK364.out) | (go_at_call 70; (with_reducible refine (bluebellref02_Quote.calls k1 ((rd_T47 l0_1 x3_1).f0) t365 t366 _ A7.out).mono ?_); rintro e w' ⟨rfl, ⟨nd, rfl⟩⟩; (try first | exact ⟨rfl, _, World.drewN_drewN _ _ _⟩ | exact ⟨rfl, _, Eq.trans (World.drewN_drewN _ _ _) (congrArg (World.drewN _) (Nat.add_assoc _ _ _))⟩))))
      go_ret
      exact ⟨erE, bw⟩
    ·replace c6 := Bool.eq_false_iff.mpr c6
     subst c6
     have H1 : (if ((rd_T47 l0_1 x3_1).f0).toList = ([] : List UInt8) then (bluebellref06_areas.j1 k1 x3_1 ((((rd_T47 l0_1 x3_1).f2).length : Int) == 0) a0_0 l0_1 l0_2 l0_3 a0_4 a0_5 ((rd_T47 l0_1 x3_1).f0) false ((rd_T47 l0_1 x3_1).f2)) else (bluebellref06_areas.j1 k1 x3_1 true a0_0 l0_1 l0_2 l0_3 a0_4 a0_5 ((rd_T47 l0_1 x3_1).f0) false ((rd_T47 l0_1 x3_1).f2))) = some r := by rw [if_neg (show ¬ (false = true) by decide)] at H; exact H
     clear H
     have H := H1
     clear H1
     have HC22 := Aside0.mk H
     clear H
     obtain ⟨z23_0, z23_1, z23_2, z23_3, z23_4, z23_5, y23_0, y23_1, y23_2, y23_3, y23_4, y23_5⟩ := cells6 BK362.out
     have p363 : 0 ≤ (x3_1 : Int) := ofd
     have q363 : x3_1 < (l0_1.length : Int) := ofd
     obtain ⟨ad363, A363_2, c363_2, e363, hx363_0, hx363_1, hx363_2, hl363_2, hi363_2⟩ := at_T47 HR0_1.out x3_1 p363 q363
     (try rw [← Nbq5.out] at hx363_1)
     cases e363
     replace hx363_0 := hxE HB.out hx363_0
     replace hx363_1 := hxE HB.out hx363_1
     replace hx363_2 := hxE HB.out hx363_2
     have HR363_2 := Aside0.mk hi363_2
     have HC363_2 := Aside0.mk hl363_2
     clear hi363_2 hl363_2
     replace p363 := eq_true p363
     replace q363 := eq_true q363
     go_upto_region 9 with (first | ((with_reducible refine gate_dst (N := 4) rfl ?_); (try (refine gate_guard (by rfl) ?_; dsimp only)); refine boxev (N := 4) (cs := #[.string (⟨#[]⟩ : ByteArray), .bool false, .slice none 0 0]) (t := 47) ?_; intro gb364 hg w24 hbox hb; have BK364 := Aside0.mk (hbox); have GW364 := Aside0.mk ((by rw [hg]; exact bsz : w.heap.size ≤ gb364)); have GE364 := Aside0.mk ((by rw [hg]; exact bsz : w.heap.size ≤ gb364)); have NB362_364 := Aside0.mk ((by rw [hg]; exact Nat.ne_of_lt (bkl (g := gb362)) : gb362 ≠ gb364)); have NB364_362 := Aside0.mk ((by rw [hg]; exact Nat.ne_of_gt (bkl (g := gb362)) : gb364 ≠ gb362)); replace BK362 := Aside0.mk (bkb (g := gb362) hb); replace HB := Aside0.mk (bstep hb); clear hb hbox hg; have hnb25 := NB364_362.out; have hnc25 := NB362_364.out; obtain ⟨z26_0, z26_1, z26_2, y26_0, y26_1, y26_2⟩ := cells3 BK364.out))
     repeat (go_quiet (first | ((with_reducible refine gate_dst (N := 4) rfl ?_); (try (refine gate_guard (by rfl) ?_; dsimp only)); refine boxev (N := 4) (cs := #[.string (⟨#[]⟩ : ByteArray), .bool false, .slice none 0 0]) (t := 47) ?_; intro gb364 hg w24 hbox hb; have BK364 := Aside0.mk (hbox); have GW364 := Aside0.mk ((by rw [hg]; exact bsz : w.heap.size ≤ gb364)); have GE364 := Aside0.mk ((by rw [hg]; exact bsz : w.heap.size ≤ gb364)); have NB362_364 := Aside0.mk ((by rw [hg]; exact Nat.ne_of_lt (bkl (g := gb362)) : gb362 ≠ gb364)); have NB364_362 := Aside0.mk ((by rw [hg]; exact Nat.ne_of_gt (bkl (g := gb362)) : gb364 ≠ gb362)); replace BK362 := Aside0.mk (bkb (g := gb362) hb); replace HB := Aside0.mk (bstep hb); clear hb hbox hg; have hnb25 := NB364_362.out; have hnc25 := NB362_364.out; obtain ⟨z26_0, z26_1, z26_2, y26_0, y26_1, y26_2⟩ := cells3 BK364.out)); go_upto_region 9 with (first | ((with_reducible refine gate_dst (N := 4) rfl ?_); (try (refine gate_guard (by rfl) ?_; dsimp only)); refine boxev (N := 4) (cs := #[.string (⟨#[]⟩ : ByteArray), .bool false, .slice none 0 0]) (t := 47) ?_; intro gb364 hg w24 hbox hb; have BK364 := Aside0.mk (hbox); have GW364 := Aside0.mk ((by rw [hg]; exact bsz : w.heap.size ≤ gb364)); have GE364 := Aside0.mk ((by rw [hg]; exact bsz : w.heap.size ≤ gb364)); have NB362_364 := Aside0.mk ((by rw [hg]; exact Nat.ne_of_lt (bkl (g := gb362)) : gb362 ≠ gb364)); have NB364_362 := Aside0.mk ((by rw [hg]; exact Nat.ne_of_gt (bkl (g := gb362)) : gb364 ≠ gb362)); replace BK362 := Aside0.mk (bkb (g := gb362) hb); replace HB := Aside0.mk (bstep hb); clear hb hbox hg; have hnb25 := NB364_362.out; have hnc25 := NB362_364.out; obtain ⟨z26_0, z26_1, z26_2, y26_0, y26_1, y26_2⟩ := cells3 BK364.out)))
     (try simp only [Act.put, List.setIfInBounds_toArray, List.set_cons_zero, List.set_cons_succ])
     go_cut [49] (fun v49 wc => ∃ (kq : Nat) (x49_21 : Bool), v49 = .bool x49_21 ∧ Aside0 (bluebellref06_areas.j1 kq x3_1 x49_21 a0_0 l0_1 l0_2 l0_3 a0_4 a0_5 ((rd_T47 l0_1 x3_1).f0) false ((rd_T47 l0_1 x3_1).f2) = some r) ∧ Aside0 (kq ≤ k1) ∧ Aside0 (wc.heap[gb362]? = some (.cells #[.string a0_0, (.slice (some ad363) l0_1.length c0_1), (.slice A0_2 l0_2.length c0_2), (.slice A0_3 l0_3.length c0_3), .int .i64 a0_4, .int .i64 a0_5] 26 (0, 0))) ∧ Aside0 (wc.heap[gb364]? = some (.cells #[.string ((rd_T47 l0_1 x3_1).f0), .bool false, (.slice A363_2 ((rd_T47 l0_1 x3_1).f2).length c363_2)] 47 (0, 0))) ∧ Aside0 (Below w.heap.size w wc))
     case first =>
      have H := HC22.out
      clear HC22
      by_cases c27 : ((rd_T47 l0_1 x3_1).f0).toList = ([] : List UInt8)
      ·rw [if_pos c27] at H
       have c27b0 : (((rd_T47 l0_1 x3_1).f0).toList == ([] : List UInt8)) = true := beq_iff_eq.mpr c27
       have c27b1 : (((rd_T47 l0_1 x3_1).f0).toList != ([] : List UInt8)) = false := bne_eq_false_iff_eq.mpr c27
       clear c27
       (first | rw [c27b0] | (simp only [i64_w, i32_w]; rw [c27b0]) | skip)
       have H' := Aside0.mk H
       clear H
       have hnb28 := NB364_362.out
       have hnc28 := NB362_364.out
       obtain ⟨z29_0, z29_1, z29_2, y29_0, y29_1, y29_2⟩ := cells3 BK364.out
       go_wp2
       repeat (go_quiet (fail); try go_wp2)
       (first | go_meet | (refine Met.intro ?_; go_step; (repeat apply Exists.intro); refine ⟨?rel, ?fr_⟩; (case fr_ => first | (simp only [c27b1, c27b0]; done) | (simp only [c27b1, c27b0]; rfl) | (simp only [c27b1, c27b0]; rfl))))
       case rel => exact ⟨_, (((((rd_T47 l0_1 x3_1).f2).length : Int) == 0)), wrE, H', ⟨by have := HK1.out; first | omega | exact Nat.le_refl _⟩, ⟨by (with_reducible repeat (first | refine blk_drewN ?_ _ | refine blk_drew ?_ | refine blk_alloc ?_ _)); refine blk_far ?_ NB362_364.out _; (with_reducible repeat (first | refine blk_drewN ?_ _ | refine blk_drew ?_ | refine blk_alloc ?_ _)); refine blk_far ?_ NB362_364.out _; (with_reducible repeat (first | refine blk_drewN ?_ _ | refine blk_drew ?_ | refine blk_alloc ?_ _)); refine blk_far ?_ NB362_364.out _; (with_reducible repeat (first | refine blk_drewN ?_ _ | refine blk_drew ?_ | refine blk_alloc ?_ _)); exact BK362.out⟩, ⟨by (with_reducible repeat (first | refine blk_drewN ?_ _ | refine blk_drew ?_ | refine blk_alloc ?_ _)); refine blk_put (cs := #[.string ((rd_T47 l0_1 x3_1).f0), .bool false, .slice none 0 0]) ?_ 2 _ rfl; (with_reducible repeat (first | refine blk_drewN ?_ _ | refine blk_drew ?_ | refine blk_alloc ?_ _)); refine blk_put (cs := #[.string ((rd_T47 l0_1 x3_1).f0), .bool false, .slice none 0 0]) ?_ 1 _ rfl; (with_reducible repeat (first | refine blk_drewN ?_ _ | refine blk_drew ?_ | refine blk_alloc ?_ _)); refine blk_put (cs := #[.string (⟨#[]⟩ : ByteArray), .bool false, .slice none 0 0]) ?_ 0 _ rfl; (with_reducible repeat (first | refine blk_drewN ?_ _ | refine blk_drew ?_ | refine blk_alloc ?_ _)); exact BK364.out⟩, ⟨bw⟩⟩
      ·rw [if_neg c27] at H
       have c27b0 : (((rd_T47 l0_1 x3_1).f0).toList == ([] : List UInt8)) = false := beq_eq_false_iff_ne.mpr c27
       have c27b1 : (((rd_T47 l0_1 x3_1).f0).toList != ([] : List UInt8)) = true := bne_iff_ne.mpr c27
       (first | rw [c27b0] | (simp only [i64_w, i32_w]; rw [c27b0]) | skip)
       have H' := Aside0.mk H
       clear H
       have hnb30 := NB364_362.out
       have hnc30 := NB362_364.out
       obtain ⟨z31_0, z31_1, z31_2, y31_0, y31_1, y31_2⟩ := cells3 BK364.out
       go_wp2
       repeat (go_quiet (fail); try go_wp2)
       (first | go_meet | (refine Met.intro ?_; go_step; (repeat apply Exists.intro); refine ⟨?rel, ?fr_⟩; (case fr_ => first | (simp only [c27b1, c27b0]; done) | (simp only [c27b1, c27b0]; rfl) | (simp only [c27b1, c27b0]; rfl))))
       case rel => exact ⟨_, (true), wrE, H', ⟨by have := HK1.out; first | omega | exact Nat.le_refl _⟩, ⟨by (with_reducible repeat (first | refine blk_drewN ?_ _ | refine blk_drew ?_ | refine blk_alloc ?_ _)); refine blk_far ?_ NB362_364.out _; (with_reducible repeat (first | refine blk_drewN ?_ _ | refine blk_drew ?_ | refine blk_alloc ?_ _)); refine blk_far ?_ NB362_364.out _; (with_reducible repeat (first | refine blk_drewN ?_ _ | refine blk_drew ?_ | refine blk_alloc ?_ _)); refine blk_far ?_ NB362_364.out _; (with_reducible repeat (first | refine blk_drewN ?_ _ | refine blk_drew ?_ | refine blk_alloc ?_ _)); exact BK362.out⟩, ⟨by (with_reducible repeat (first | refine blk_drewN ?_ _ | refine blk_drew ?_ | refine blk_alloc ?_ _)); refine blk_put (cs := #[.string ((rd_T47 l0_1 x3_1).f0), .bool false, .slice none 0 0]) ?_ 2 _ rfl; (with_reducible repeat (first | refine blk_drewN ?_ _ | refine blk_drew ?_ | refine blk_alloc ?_ _)); refine blk_put (cs := #[.string ((rd_T47 l0_1 x3_1).f0), .bool false, .slice none 0 0]) ?_ 1 _ rfl; (with_reducible repeat (first | refine blk_drewN ?_ _ | refine blk_drew ?_ | refine blk_alloc ?_ _)); refine blk_put (cs := #[.string (⟨#[]⟩ : ByteArray), .bool false, .slice none 0 0]) ?_ 0 _ rfl; (with_reducible repeat (first | refine blk_drewN ?_ _ | refine blk_drew ?_ | refine blk_alloc ?_ _)); exact BK364.out⟩, ⟨bw⟩⟩
     case rest =>
      clear HC22
      clear c3b0 c4b0 z23_0 z23_1 z23_2 z23_3 z23_4 z23_5 z26_0 z26_1 z26_2 y23_0 y23_1 y23_2 y23_3 y23_4 y23_5 y26_0 y26_1 y26_2 hx363_0 hx363_1 hx363_2 p363 q363
      obtain ⟨kq, x49_21, rfl, HA, HJ21, BK362, BK364, HB⟩ := hcut
      cases kq with
      | zero => exact absurd HA.out (by simp [bluebellref06_areas.j1])
      | succ kj21 =>
       have H := HA.out
       clear HA
       simp only [bluebellref06_areas.j1] at H
       by_cases c32 : x49_21 = true
       ·subst c32
        have H1 : (some false) = some r := by rw [if_pos rfl] at H; exact H
        clear H
        have H := H1
        clear H1
        obtain rfl := Option.some.inj H
        go_wp2
        repeat (go_quiet (fail); try go_wp2)
        go_ret
        exact ⟨erE, bw⟩
       ·replace c32 := Bool.eq_false_iff.mpr c32
        subst c32
        have H1 : (bluebellref06_areas.l1 kj21 x3_1 0 a0_0 l0_1 l0_2 l0_3 a0_4 a0_5 ((rd_T47 l0_1 x3_1).f0) false ((rd_T47 l0_1 x3_1).f2)) = some r := by rw [if_neg (show ¬ (false = true) by decide)] at H; exact H
        clear H
        have H := H1
        clear H1
        have H' := Aside0.mk H
        clear H
        go_wp2
        repeat (go_quiet (fail); try go_wp2)
        go_loopg [7] kj21 (fun kq v7 w' => ∃ (x7_3 : Int), v7 = .int .i64 x7_3 ∧ Aside0 (bluebellref06_areas.l1 kq x3_1 x7_3 a0_0 l0_1 l0_2 l0_3 a0_4 a0_5 ((rd_T47 l0_1 x3_1).f0) false ((rd_T47 l0_1 x3_1).f2) = some r) ∧ Aside0 (kq ≤ kj21) ∧ Aside0 (w'.heap[gb362]? = some (.cells #[.string a0_0, (.slice (some ad363) l0_1.length c0_1), (.slice A0_2 l0_2.length c0_2), (.slice A0_3 l0_3.length c0_3), .int .i64 a0_4, .int .i64 a0_5] 26 (0, 0))) ∧ Aside0 (w'.heap[gb364]? = some (.cells #[.string ((rd_T47 l0_1 x3_1).f0), .bool false, (.slice A363_2 ((rd_T47 l0_1 x3_1).f2).length c363_2)] 47 (0, 0))) ∧ Aside0 (Below w.heap.size w w'))
        case atStart => exact ⟨(0), wrE, H', ⟨Nat.le_refl _⟩, ⟨bk⟩, ⟨bk⟩, ⟨bw⟩⟩
        case round =>
         clear H'
         obtain ⟨x7_3, rfl, HA, HK3, BK362, BK364, HB⟩ := hrel
         cases gk with
         | zero => exact absurd HA.out (by simp [bluebellref06_areas.l1])
         | succ k3 =>
          have H := HA.out
          clear HA
          simp only [bluebellref06_areas.l1] at H
          by_cases c33 : x7_3 < (((rd_T47 l0_1 x3_1).f2).length : Int)
          ·rw [if_pos c33] at H
           have c33b0 : decide (x7_3 < (((rd_T47 l0_1 x3_1).f2).length : Int)) = true := decide_eq_true c33
           clear c33
           by_cases c34 : 0 ≤ x7_3
           rotate_left
           ·rw [if_neg c34] at H
            exact absurd H (by simp)
           rw [if_pos c34] at H
           have c34b0 : decide (0 ≤ x7_3) = true := decide_eq_true c34
           clear c34
           replace H := Option.bind_eq_some_iff.mp H
           obtain ⟨t368, A350, H⟩ := H
           replace H : (if t368 = true then (bluebellref06_areas.l1 k3 x3_1 (wrap64 (x7_3 + 1)) a0_0 l0_1 l0_2 l0_3 a0_4 a0_5 ((rd_T47 l0_1 x3_1).f0) false ((rd_T47 l0_1 x3_1).f2)) else (some false)) = some r := H
           have A35 := Aside0.mk A350
           clear A350
           by_cases c36 : t368 = true
           ·subst c36
            have H1 : (bluebellref06_areas.l1 k3 x3_1 (wrap64 (x7_3 + 1)) a0_0 l0_1 l0_2 l0_3 a0_4 a0_5 ((rd_T47 l0_1 x3_1).f0) false ((rd_T47 l0_1 x3_1).f2)) = some r := by rw [if_pos rfl] at H; exact H
            clear H
            have H := H1
            clear H1
            have H' := Aside0.mk H
            clear H
            have hnb37 := NB364_362.out
            have hnc37 := NB362_364.out
            obtain ⟨z38_0, z38_1, z38_2, y38_0, y38_1, y38_2⟩ := cells3 BK364.out
            have p367 : 0 ≤ (x7_3 : Int) := ofd
            have q367 : x7_3 < (((rd_T47 l0_1 x3_1).f2).length : Int) := ofd
            obtain ⟨ad367, e367, hx367_0⟩ := Kd.at_int HR363_2.out x7_3 p367 q367
            cases e367
            replace hx367_0 := hxE HB.out hx367_0
            replace p367 := eq_true p367
            replace q367 := eq_true q367
            go_wp2_with (first | (go_at_call 71; (with_reducible refine (bluebellref06_in.calls (rd ((rd_T47 l0_1 x3_1).f2) x7_3) (-2147483648) 2147483647 true _ A35.out).mono ?_); rintro e w' ⟨rfl, ⟨nd, rfl⟩⟩; (try first | exact ⟨rfl, _, World.drewN_drewN _ _ _⟩ | exact ⟨rfl, _, Eq.trans (World.drewN_drewN _ _ _) (congrArg (World.drewN _) (Nat.add_assoc _ _ _))⟩)))
            repeat (go_quiet (first | (go_at_call 71; (with_reducible refine (bluebellref06_in.calls (rd ((rd_T47 l0_1 x3_1).f2) x7_3) (-2147483648) 2147483647 true _ A35.out).mono ?_); rintro e w' ⟨rfl, ⟨nd, rfl⟩⟩; (try first | exact ⟨rfl, _, World.drewN_drewN _ _ _⟩ | exact ⟨rfl, _, Eq.trans (World.drewN_drewN _ _ _) (congrArg (World.drewN _) (Nat.add_assoc _ _ _))⟩))); try go_wp2_with (first | (go_at_call 71; (with_reducible refine (bluebellref06_in.calls (rd ((rd_T47 l0_1 x3_1).f2) x7_3) (-2147483648) 2147483647 true _ A35.out).mono ?_); rintro e w' ⟨rfl, ⟨nd, rfl⟩⟩; (try first | exact ⟨rfl, _, World.drewN_drewN _ _ _⟩ | exact ⟨rfl, _, Eq.trans (World.drewN_drewN _ _ _) (congrArg (World.drewN _) (Nat.add_assoc _ _ _))⟩))))
            go_roundg k3
            case measure => have := HK1.out; have := HJ21.out; have := HK3.out; omega
            case rel => exact ⟨(wrap64 (x7_3 + 1)), wrE, H', ⟨by have := HK1.out; have := HJ21.out; have := HK3.out; omega⟩, ⟨bk⟩, ⟨bk⟩, ⟨bw⟩⟩
           ·replace c36 := Bool.eq_false_iff.mpr c36
            subst c36
            have H1 : (some false) = some r := by rw [if_neg (show ¬ (false = true) by decide)] at H; exact H
            clear H
            have H := H1
            clear H1
            obtain rfl := Option.some.inj H
            have hnb39 := NB364_362.out
            have hnc39 := NB362_364.out
            obtain ⟨z40_0, z40_1, z40_2, y40_0, y40_1, y40_2⟩ := cells3 BK364.out
            have p367 : 0 ≤ (x7_3 : Int) := ofd
            have q367 : x7_3 < (((rd_T47 l0_1 x3_1).f2).length : Int) := ofd
            obtain ⟨ad367, e367, hx367_0⟩ := Kd.at_int HR363_2.out x7_3 p367 q367
            cases e367
            replace hx367_0 := hxE HB.out hx367_0
            replace p367 := eq_true p367
            replace q367 := eq_true q367
            go_wp2_with (first | (go_at_call 71; (with_reducible refine (bluebellref06_in.calls (rd ((rd_T47 l0_1 x3_1).f2) x7_3) (-2147483648) 2147483647 false _ A35.out).mono ?_); rintro e w' ⟨rfl, ⟨nd, rfl⟩⟩; (try first | exact ⟨rfl, _, World.drewN_drewN _ _ _⟩ | exact ⟨rfl, _, Eq.trans (World.drewN_drewN _ _ _) (congrArg (World.drewN _) (Nat.add_assoc _ _ _))⟩)))
            repeat (go_quiet (first | (go_at_call 71; (with_reducible refine (bluebellref06_in.calls (rd ((rd_T47 l0_1 x3_1).f2) x7_3) (-2147483648) 2147483647 false _ A35.out).mono ?_); rintro e w' ⟨rfl, ⟨nd, rfl⟩⟩; (try first | exact ⟨rfl, _, World.drewN_drewN _ _ _⟩ | exact ⟨rfl, _, Eq.trans (World.drewN_drewN _ _ _) (congrArg (World.drewN _) (Nat.add_assoc _ _ _))⟩))); try go_wp2_with (first | (go_at_call 71; (with_reducible refine (bluebellref06_in.calls (rd ((rd_T47 l0_1 x3_1).f2) x7_3) (-2147483648) 2147483647 false _ A35.out).mono ?_); rintro e w' ⟨rfl, ⟨nd, rfl⟩⟩; (try first | exact ⟨rfl, _, World.drewN_drewN _ _ _⟩ | exact ⟨rfl, _, Eq.trans (World.drewN_drewN _ _ _) (congrArg (World.drewN _) (Nat.add_assoc _ _ _))⟩))))
            go_ret
            exact ⟨erE, bw⟩
          ·rw [if_neg c33] at H
           have c33b0 : decide (x7_3 < (((rd_T47 l0_1 x3_1).f2).length : Int)) = false := decide_eq_false c33
           clear c33
           have H' := Aside0.mk H
           clear H
           have hnb41 := NB364_362.out
           have hnc41 := NB362_364.out
           obtain ⟨z42_0, z42_1, z42_2, y42_0, y42_1, y42_2⟩ := cells3 BK364.out
           go_wp2
           repeat (go_quiet (fail); try go_wp2)
           go_roundg k3
           case measure => have := HK1.out; have := HJ21.out; have := HK3.out; omega
           case rel => exact ⟨(wrap64 (x3_1 + 1)), wrE, H', ⟨by have := HK1.out; have := HJ21.out; have := HK3.out; omega⟩, ⟨bk⟩, ⟨bw⟩⟩
   ·rw [if_neg c3] at H
    have c3b0 : decide (x3_1 < (l0_1.length : Int)) = false := decide_eq_false c3
    clear c3
    have H' := Aside0.mk H
    clear H
    obtain ⟨z43_0, z43_1, z43_2, z43_3, z43_4, z43_5, y43_0, y43_1, y43_2, y43_3, y43_4, y43_5⟩ := cells6 BK362.out
    go_wp2
    repeat (go_quiet (fail); try go_wp2)
    go_loopg [8] k1 (fun kq v8 w' => ∃ (x8_2 : Int), v8 = .int .i64 x8_2 ∧ Aside0 (bluebellref06_areas.l2 kq x8_2 a0_0 l0_1 l0_2 l0_3 a0_4 a0_5 = some r) ∧ Aside0 (kq ≤ k1) ∧ Aside0 (w'.heap[gb362]? = some (.cells #[.string a0_0, (.slice A0_1 l0_1.length c0_1), (.slice A0_2 l0_2.length c0_2), (.slice A0_3 l0_3.length c0_3), .int .i64 a0_4, .int .i64 a0_5] 26 (0, 0))) ∧ Aside0 (Below w.heap.size w w'))
    case atStart => exact ⟨(0), wrE, H', ⟨Nat.le_refl _⟩, ⟨bk⟩, ⟨bw⟩⟩
    case round =>
     clear H'
     clear c3b0 z43_0 z43_1 z43_2 z43_3 z43_4 z43_5 y43_0 y43_1 y43_2 y43_3 y43_4 y43_5
     obtain ⟨x8_2, rfl, HA, HK2, BK362, HB⟩ := hrel
     cases gk with
     | zero => exact absurd HA.out (by simp [bluebellref06_areas.l2])
     | succ k2 =>
      have H := HA.out
      clear HA
      simp only [bluebellref06_areas.l2] at H
      by_cases c44 : x8_2 < (l0_3.length : Int)
      ·rw [if_pos c44] at H
       have c44b0 : decide (x8_2 < (l0_3.length : Int)) = true := decide_eq_true c44
       clear c44
       by_cases c45 : 0 ≤ x8_2
       rotate_left
       ·rw [if_neg c45] at H
        exact absurd H (by simp)
       rw [if_pos c45] at H
       have c45b0 : decide (0 ≤ x8_2) = true := decide_eq_true c45
       clear c45
       have HC46 := Aside0.mk H
       clear H
       obtain ⟨z47_0, z47_1, z47_2, z47_3, z47_4, z47_5, y47_0, y47_1, y47_2, y47_3, y47_4, y47_5⟩ := cells6 BK362.out
       have p371 : 0 ≤ (x8_2 : Int) := ofd
       have q371 : x8_2 < (l0_3.length : Int) := ofd
       obtain ⟨ad371, e371, hx371_0, hx371_1⟩ := at_T68 HR0_3.out x8_2 p371 q371
       cases e371
       replace hx371_0 := hxE HB.out hx371_0
       replace hx371_1 := hxE HB.out hx371_1
       replace p371 := eq_true p371
       replace q371 := eq_true q371
       go_upto_region 20 with (first | ((with_reducible refine gate_dst (N := 9) rfl ?_); (try (refine gate_guard (by rfl) ?_; dsimp only)); refine boxev (N := 9) (cs := #[.int .i64 0, .int .i64 0]) (t := 68) ?_; intro gb372 hg w48 hbox hb; have BK372 := Aside0.mk (hbox); have GW372 := Aside0.mk ((by rw [hg]; exact bsz : w.heap.size ≤ gb372)); have GE372 := Aside0.mk ((by rw [hg]; exact bsz : w.heap.size ≤ gb372)); have NB362_372 := Aside0.mk ((by rw [hg]; exact Nat.ne_of_lt (bkl (g := gb362)) : gb362 ≠ gb372)); have NB372_362 := Aside0.mk ((by rw [hg]; exact Nat.ne_of_gt (bkl (g := gb362)) : gb372 ≠ gb362)); replace BK362 := Aside0.mk (bkb (g := gb362) hb); replace HB := Aside0.mk (bstep hb); clear hb hbox hg; have hnb49 := NB372_362.out; have hnc49 := NB362_372.out; obtain ⟨z50_0, z50_1, y50_0, y50_1⟩ := cells2 BK372.out))
       repeat (go_quiet (first | ((with_reducible refine gate_dst (N := 9) rfl ?_); (try (refine gate_guard (by rfl) ?_; dsimp only)); refine boxev (N := 9) (cs := #[.int .i64 0, .int .i64 0]) (t := 68) ?_; intro gb372 hg w48 hbox hb; have BK372 := Aside0.mk (hbox); have GW372 := Aside0.mk ((by rw [hg]; exact bsz : w.heap.size ≤ gb372)); have GE372 := Aside0.mk ((by rw [hg]; exact bsz : w.heap.size ≤ gb372)); have NB362_372 := Aside0.mk ((by rw [hg]; exact Nat.ne_of_lt (bkl (g := gb362)) : gb362 ≠ gb372)); have NB372_362 := Aside0.mk ((by rw [hg]; exact Nat.ne_of_gt (bkl (g := gb362)) : gb372 ≠ gb362)); replace BK362 := Aside0.mk (bkb (g := gb362) hb); replace HB := Aside0.mk (bstep hb); clear hb hbox hg; have hnb49 := NB372_362.out; have hnc49 := NB362_372.out; obtain ⟨z50_0, z50_1, y50_0, y50_1⟩ := cells2 BK372.out)); go_upto_region 20 with (first | ((with_reducible refine gate_dst (N := 9) rfl ?_); (try (refine gate_guard (by rfl) ?_; dsimp only)); refine boxev (N := 9) (cs := #[.int .i64 0, .int .i64 0]) (t := 68) ?_; intro gb372 hg w48 hbox hb; have BK372 := Aside0.mk (hbox); have GW372 := Aside0.mk ((by rw [hg]; exact bsz : w.heap.size ≤ gb372)); have GE372 := Aside0.mk ((by rw [hg]; exact bsz : w.heap.size ≤ gb372)); have NB362_372 := Aside0.mk ((by rw [hg]; exact Nat.ne_of_lt (bkl (g := gb362)) : gb362 ≠ gb372)); have NB372_362 := Aside0.mk ((by rw [hg]; exact Nat.ne_of_gt (bkl (g := gb362)) : gb372 ≠ gb362)); replace BK362 := Aside0.mk (bkb (g := gb362) hb); replace HB := Aside0.mk (bstep hb); clear hb hbox hg; have hnb49 := NB372_362.out; have hnc49 := NB362_372.out; obtain ⟨z50_0, z50_1, y50_0, y50_1⟩ := cells2 BK372.out)))
       (try simp only [Act.put, List.setIfInBounds_toArray, List.set_cons_zero, List.set_cons_succ])
       go_cut [87] (fun v87 wc => ∃ (kq : Nat) (x87_45 : Bool), v87 = .bool x87_45 ∧ Aside0 (bluebellref06_areas.j4 kq x8_2 x87_45 a0_0 l0_1 l0_2 l0_3 a0_4 a0_5 ((rd_T68 l0_3 x8_2).f0) ((rd_T68 l0_3 x8_2).f1) = some r) ∧ Aside0 (kq ≤ k2) ∧ Aside0 (wc.heap[gb362]? = some (.cells #[.string a0_0, (.slice A0_1 l0_1.length c0_1), (.slice A0_2 l0_2.length c0_2), (.slice (some ad371) l0_3.length c0_3), .int .i64 a0_4, .int .i64 a0_5] 26 (0, 0))) ∧ Aside0 (wc.heap[gb372]? = some (.cells #[.int .i64 ((rd_T68 l0_3 x8_2).f0), .int .i64 ((rd_T68 l0_3 x8_2).f1)] 68 (0, 0))) ∧ Aside0 (Below w.heap.size w wc))
       case first =>
        have H := HC46.out
        clear HC46
        replace H := Option.bind_eq_some_iff.mp H
        obtain ⟨t373, A510, H⟩ := H
        replace H : (if t373 = true then ((bluebellref06_in.f ((rd_T68 l0_3 x8_2).f1) 1 a0_4).bind fun t374 => (bluebellref06_areas.j4 k2 x8_2 (!t374) a0_0 l0_1 l0_2 l0_3 a0_4 a0_5 ((rd_T68 l0_3 x8_2).f0) ((rd_T68 l0_3 x8_2).f1))) else (bluebellref06_areas.j4 k2 x8_2 true a0_0 l0_1 l0_2 l0_3 a0_4 a0_5 ((rd_T68 l0_3 x8_2).f0) ((rd_T68 l0_3 x8_2).f1))) = some r := H
        have A51 := Aside0.mk A510
        clear A510
        by_cases c52 : t373 = true
        ·subst c52
         have H1 : ((bluebellref06_in.f ((rd_T68 l0_3 x8_2).f1) 1 a0_4).bind fun t374 => (bluebellref06_areas.j4 k2 x8_2 (!t374) a0_0 l0_1 l0_2 l0_3 a0_4 a0_5 ((rd_T68 l0_3 x8_2).f0) ((rd_T68 l0_3 x8_2).f1))) = some r := by rw [if_pos rfl] at H; exact H
         clear H
         have H := H1
         clear H1
         replace H := Option.bind_eq_some_iff.mp H
         obtain ⟨t374, A530, H⟩ := H
         replace H : (bluebellref06_areas.j4 k2 x8_2 (!t374) a0_0 l0_1 l0_2 l0_3 a0_4 a0_5 ((rd_T68 l0_3 x8_2).f0) ((rd_T68 l0_3 x8_2).f1)) = some r := H
         have A53 := Aside0.mk A530
         clear A530
         have H' := Aside0.mk H
         clear H
         have hnb54 := NB372_362.out
         have hnc54 := NB362_372.out
         obtain ⟨z55_0, z55_1, y55_0, y55_1⟩ := cells2 BK372.out
         go_wp2_with (first | (go_at_call 71; (with_reducible refine (bluebellref06_in.calls ((rd_T68 l0_3 x8_2).f0) 1 199 true _ A51.out).mono ?_); rintro e w' ⟨rfl, ⟨nd, rfl⟩⟩; (try first | exact ⟨rfl, _, World.drewN_drewN _ _ _⟩ | exact ⟨rfl, _, Eq.trans (World.drewN_drewN _ _ _) (congrArg (World.drewN _) (Nat.add_assoc _ _ _))⟩); obtain ⟨z56_0, z56_1, z56_2, z56_3, z56_4, z56_5, y56_0, y56_1, y56_2, y56_3, y56_4, y56_5⟩ := cells6 BK362.out) | (go_at_call 71; (with_reducible refine (bluebellref06_in.calls ((rd_T68 l0_3 x8_2).f1) 1 a0_4 t374 _ A53.out).mono ?_); rintro e w' ⟨rfl, ⟨nd, rfl⟩⟩; (try first | exact ⟨rfl, _, World.drewN_drewN _ _ _⟩ | exact ⟨rfl, _, Eq.trans (World.drewN_drewN _ _ _) (congrArg (World.drewN _) (Nat.add_assoc _ _ _))⟩)))
         repeat (go_quiet (first | (go_at_call 71; (with_reducible refine (bluebellref06_in.calls ((rd_T68 l0_3 x8_2).f0) 1 199 true _ A51.out).mono ?_); rintro e w' ⟨rfl, ⟨nd, rfl⟩⟩; (try first | exact ⟨rfl, _, World.drewN_drewN _ _ _⟩ | exact ⟨rfl, _, Eq.trans (World.drewN_drewN _ _ _) (congrArg (World.drewN _) (Nat.add_assoc _ _ _))⟩); obtain ⟨z56_0, z56_1, z56_2, z56_3, z56_4, z56_5, y56_0, y56_1, y56_2, y56_3, y56_4, y56_5⟩ := cells6 BK362.out) | (go_at_call 71; (with_reducible refine (bluebellref06_in.calls ((rd_T68 l0_3 x8_2).f1) 1 a0_4 t374 _ A53.out).mono ?_); rintro e w' ⟨rfl, ⟨nd, rfl⟩⟩; (try first | exact ⟨rfl, _, World.drewN_drewN _ _ _⟩ | exact ⟨rfl, _, Eq.trans (World.drewN_drewN _ _ _) (congrArg (World.drewN _) (Nat.add_assoc _ _ _))⟩))); try go_wp2_with (first | (go_at_call 71; (with_reducible refine (bluebellref06_in.calls ((rd_T68 l0_3 x8_2).f0) 1 199 true _ A51.out).mono ?_); rintro e w' ⟨rfl, ⟨nd, rfl⟩⟩; (try first | exact ⟨rfl, _, World.drewN_drewN _ _ _⟩ | exact ⟨rfl, _, Eq.trans (World.drewN_drewN _ _ _) (congrArg (World.drewN _) (Nat.add_assoc _ _ _))⟩); obtain ⟨z56_0, z56_1, z56_2, z56_3, z56_4, z56_5, y56_0, y56_1, y56_2, y56_3, y56_4, y56_5⟩ := cells6 BK362.out) | (go_at_call 71; (with_reducible refine (bluebellref06_in.calls ((rd_T68 l0_3 x8_2).f1) 1 a0_4 t374 _ A53.out).mono ?_); rintro e w' ⟨rfl, ⟨nd, rfl⟩⟩; (try first | exact ⟨rfl, _, World.drewN_drewN _ _ _⟩ | exact ⟨rfl, _, Eq.trans (World.drewN_drewN _ _ _) (congrArg (World.drewN _) (Nat.add_assoc _ _ _))⟩))))
         go_meet
         case rel => exact ⟨_, (!t374), wrE, H', ⟨by have := HK1.out; have := HK2.out; first | omega | exact Nat.le_refl _⟩, ⟨by (with_reducible repeat (first | refine blk_drewN ?_ _ | refine blk_drew ?_ | refine blk_alloc ?_ _)); refine blk_far ?_ NB362_372.out _; (with_reducible repeat (first | refine blk_drewN ?_ _ | refine blk_drew ?_ | refine blk_alloc ?_ _)); refine blk_far ?_ NB362_372.out _; (with_reducible repeat (first | refine blk_drewN ?_ _ | refine blk_drew ?_ | refine blk_alloc ?_ _)); exact BK362.out⟩, ⟨by (with_reducible repeat (first | refine blk_drewN ?_ _ | refine blk_drew ?_ | refine blk_alloc ?_ _)); refine blk_put (cs := #[.int .i64 ((rd_T68 l0_3 x8_2).f0), .int .i64 0]) ?_ 1 _ rfl; (with_reducible repeat (first | refine blk_drewN ?_ _ | refine blk_drew ?_ | refine blk_alloc ?_ _)); refine blk_put (cs := #[.int .i64 0, .int .i64 0]) ?_ 0 _ rfl; (with_reducible repeat (first | refine blk_drewN ?_ _ | refine blk_drew ?_ | refine blk_alloc ?_ _)); exact BK372.out⟩, ⟨bw⟩⟩
        ·replace c52 := Bool.eq_false_iff.mpr c52
         subst c52
         have H1 : (bluebellref06_areas.j4 k2 x8_2 true a0_0 l0_1 l0_2 l0_3 a0_4 a0_5 ((rd_T68 l0_3 x8_2).f0) ((rd_T68 l0_3 x8_2).f1)) = some r := by rw [if_neg (show ¬ (false = true) by decide)] at H; exact H
         clear H
         have H := H1
         clear H1
         have H' := Aside0.mk H
         clear H
         have hnb57 := NB372_362.out
         have hnc57 := NB362_372.out
         obtain ⟨z58_0, z58_1, y58_0, y58_1⟩ := cells2 BK372.out
         go_wp2_with (first | (go_at_call 71; (with_reducible refine (bluebellref06_in.calls ((rd_T68 l0_3 x8_2).f0) 1 199 false _ A51.out).mono ?_); rintro e w' ⟨rfl, ⟨nd, rfl⟩⟩; (try first | exact ⟨rfl, _, World.drewN_drewN _ _ _⟩ | exact ⟨rfl, _, Eq.trans (World.drewN_drewN _ _ _) (congrArg (World.drewN _) (Nat.add_assoc _ _ _))⟩)))
         repeat (go_quiet (first | (go_at_call 71; (with_reducible refine (bluebellref06_in.calls ((rd_T68 l0_3 x8_2).f0) 1 199 false _ A51.out).mono ?_); rintro e w' ⟨rfl, ⟨nd, rfl⟩⟩; (try first | exact ⟨rfl, _, World.drewN_drewN _ _ _⟩ | exact ⟨rfl, _, Eq.trans (World.drewN_drewN _ _ _) (congrArg (World.drewN _) (Nat.add_assoc _ _ _))⟩))); try go_wp2_with (first | (go_at_call 71; (with_reducible refine (bluebellref06_in.calls ((rd_T68 l0_3 x8_2).f0) 1 199 false _ A51.out).mono ?_); rintro e w' ⟨rfl, ⟨nd, rfl⟩⟩; (try first | exact ⟨rfl, _, World.drewN_drewN _ _ _⟩ | exact ⟨rfl, _, Eq.trans (World.drewN_drewN _ _ _) (congrArg (World.drewN _) (Nat.add_assoc _ _ _))⟩))))
         go_meet
         case rel => exact ⟨_, (true), wrE, H', ⟨by have := HK1.out; have := HK2.out; first | omega | exact Nat.le_refl _⟩, ⟨by (with_reducible repeat (first | refine blk_drewN ?_ _ | refine blk_drew ?_ | refine blk_alloc ?_ _)); refine blk_far ?_ NB362_372.out _; (with_reducible repeat (first | refine blk_drewN ?_ _ | refine blk_drew ?_ | refine blk_alloc ?_ _)); refine blk_far ?_ NB362_372.out _; (with_reducible repeat (first | refine blk_drewN ?_ _ | refine blk_drew ?_ | refine blk_alloc ?_ _)); exact BK362.out⟩, ⟨by (with_reducible repeat (first | refine blk_drewN ?_ _ | refine blk_drew ?_ | refine blk_alloc ?_ _)); refine blk_put (cs := #[.int .i64 ((rd_T68 l0_3 x8_2).f0), .int .i64 0]) ?_ 1 _ rfl; (with_reducible repeat (first | refine blk_drewN ?_ _ | refine blk_drew ?_ | refine blk_alloc ?_ _)); refine blk_put (cs := #[.int .i64 0, .int .i64 0]) ?_ 0 _ rfl; (with_reducible repeat (first | refine blk_drewN ?_ _ | refine blk_drew ?_ | refine blk_alloc ?_ _)); exact BK372.out⟩, ⟨bw⟩⟩
       case rest =>
        clear HC46
        clear c44b0 c45b0 z47_0 z47_1 z47_2 z47_3 z47_4 z47_5 z50_0 z50_1 y47_0 y47_1 y47_2 y47_3 y47_4 y47_5 y50_0 y50_1 hx371_0 hx371_1 p371 q371
        obtain ⟨kq, x87_45, rfl, HA, HJ45, BK362, BK372, HB⟩ := hcut
        cases kq with
        | zero => exact absurd HA.out (by simp [bluebellref06_areas.j4])
        | succ kj45 =>
         have H := HA.out
         clear HA
         simp only [bluebellref06_areas.j4] at H
         by_cases c59 : x87_45 = true
         ·subst c59
          have H1 : (some false) = some r := by rw [if_pos rfl] at H; exact H
          clear H
          have H := H1
          clear H1
          obtain rfl := Option.some.inj H
          go_wp2
          repeat (go_quiet (fail); try go_wp2)
          go_ret
          exact ⟨erE, bw⟩
         ·replace c59 := Bool.eq_false_iff.mpr c59
          subst c59
          have H1 : (bluebellref06_areas.l3 kj45 x8_2 0 a0_0 l0_1 l0_2 l0_3 a0_4 a0_5 ((rd_T68 l0_3 x8_2).f0) ((rd_T68 l0_3 x8_2).f1)) = some r := by rw [if_neg (show ¬ (false = true) by decide)] at H; exact H
          clear H
          have H := H1
          clear H1
          have H' := Aside0.mk H
          clear H
          go_wp2
          repeat (go_quiet (fail); try go_wp2)
          go_loopg [10] kj45 (fun kq v10 w' => ∃ (x10_4 : Int), v10 = .int .i64 x10_4 ∧ Aside0 (bluebellref06_areas.l3 kq x8_2 x10_4 a0_0 l0_1 l0_2 l0_3 a0_4 a0_5 ((rd_T68 l0_3 x8_2).f0) ((rd_T68 l0_3 x8_2).f1) = some r) ∧ Aside0 (kq ≤ kj45) ∧ Aside0 (w'.heap[gb362]? = some (.cells #[.string a0_0, (.slice A0_1 l0_1.length c0_1), (.slice A0_2 l0_2.length c0_2), (.slice (some ad371) l0_3.length c0_3), .int .i64 a0_4, .int .i64 a0_5] 26 (0, 0))) ∧ Aside0 (w'.heap[gb372]? = some (.cells #[.int .i64 ((rd_T68 l0_3 x8_2).f0), .int .i64 ((rd_T68 l0_3 x8_2).f1)] 68 (0, 0))) ∧ Aside0 (Below w.heap.size w w'))
          case atStart => exact ⟨(0), wrE, H', ⟨Nat.le_refl _⟩, ⟨bk⟩, ⟨bk⟩, ⟨bw⟩⟩
          case round =>
           clear H'
           obtain ⟨x10_4, rfl, HA, HK4, BK362, BK372, HB⟩ := hrel
           cases gk with
           | zero => exact absurd HA.out (by simp [bluebellref06_areas.l3])
           | succ k4 =>
            have H := HA.out
            clear HA
            simp only [bluebellref06_areas.l3] at H
            by_cases c60 : x10_4 < x8_2
            ·rw [if_pos c60] at H
             have c60b0 : decide (x10_4 < x8_2) = true := decide_eq_true c60
             clear c60
             by_cases c61 : 0 ≤ x10_4
             rotate_left
             ·rw [if_neg c61] at H
              exact absurd H (by simp)
             rw [if_pos c61] at H
             have c61b0 : decide (0 ≤ x10_4) = true := decide_eq_true c61
             clear c61
             by_cases c62 : x10_4 < (l0_3.length : Int)
             rotate_left
             ·rw [if_neg c62] at H
              exact absurd H (by simp)
             rw [if_pos c62] at H
             have c62b0 : decide (x10_4 < (l0_3.length : Int)) = true := decide_eq_true c62
             clear c62
             by_cases c63 : ((rd_T68 l0_3 x10_4).f0) = ((rd_T68 l0_3 x8_2).f0)
             ·rw [if_pos c63] at H
              have c63b0 : (((rd_T68 l0_3 x10_4).f0) == ((rd_T68 l0_3 x8_2).f0)) = true := beq_iff_eq.mpr c63
              have c63b1 : (((rd_T68 l0_3 x10_4).f0) != ((rd_T68 l0_3 x8_2).f0)) = false := bne_eq_false_iff_eq.mpr c63
              clear c63
              obtain rfl := Option.some.inj H
              have hnb64 := NB362_372.out
              have hnc64 := NB372_362.out
              obtain ⟨z65_0, z65_1, z65_2, z65_3, z65_4, z65_5, y65_0, y65_1, y65_2, y65_3, y65_4, y65_5⟩ := cells6 BK362.out
              have p375 : 0 ≤ (x10_4 : Int) := ofd
              have q375 : x10_4 < (l0_3.length : Int) := ofd
              obtain ⟨ad375, e375, hx375_0, hx375_1⟩ := at_T68 HR0_3.out x10_4 p375 q375
              obtain rfl : ad371 = ad375 := (by injection e375)
              replace hx375_0 := hxE HB.out hx375_0
              replace hx375_1 := hxE HB.out hx375_1
              replace p375 := eq_true p375
              replace q375 := eq_true q375
              obtain ⟨z66_0, z66_1, y66_0, y66_1⟩ := cells2 BK372.out
              go_wp2
              repeat (go_quiet (fail); try go_wp2)
              go_ret
              exact ⟨erE, bw⟩
             ·rw [if_neg c63] at H
              have c63b0 : (((rd_T68 l0_3 x10_4).f0) == ((rd_T68 l0_3 x8_2).f0)) = false := beq_eq_false_iff_ne.mpr c63
              have c63b1 : (((rd_T68 l0_3 x10_4).f0) != ((rd_T68 l0_3 x8_2).f0)) = true := bne_iff_ne.mpr c63
              have H' := Aside0.mk H
              clear H
              have hnb67 := NB362_372.out
              have hnc67 := NB372_362.out
              obtain ⟨z68_0, z68_1, z68_2, z68_3, z68_4, z68_5, y68_0, y68_1, y68_2, y68_3, y68_4, y68_5⟩ := cells6 BK362.out
              have p375 : 0 ≤ (x10_4 : Int) := ofd
              have q375 : x10_4 < (l0_3.length : Int) := ofd
              obtain ⟨ad375, e375, hx375_0, hx375_1⟩ := at_T68 HR0_3.out x10_4 p375 q375
              obtain rfl : ad371 = ad375 := (by injection e375)
              replace hx375_0 := hxE HB.out hx375_0
              replace hx375_1 := hxE HB.out hx375_1
              replace p375 := eq_true p375
              replace q375 := eq_true q375
              obtain ⟨z69_0, z69_1, y69_0, y69_1⟩ := cells2 BK372.out
              go_wp2
              repeat (go_quiet (fail); try go_wp2)
              go_roundg k4
              case measure => have := HK1.out; have := HK2.out; have := HJ45.out; have := HK4.out; omega
              case rel => exact ⟨(wrap64 (x10_4 + 1)), wrE, H', ⟨by have := HK1.out; have := HK2.out; have := HJ45.out; have := HK4.out; omega⟩, ⟨bk⟩, ⟨bk⟩, ⟨bw⟩⟩
            ·rw [if_neg c60] at H
             have c60b0 : decide (x10_4 < x8_2) = false := decide_eq_false c60
             clear c60
             have H' := Aside0.mk H
             clear H
             go_wp2
             repeat (go_quiet (fail); try go_wp2)
             go_roundg k4
             case measure => have := HK1.out; have := HK2.out; have := HJ45.out; have := HK4.out; omega
             case rel => exact ⟨(wrap64 (x8_2 + 1)), wrE, H', ⟨by have := HK1.out; have := HK2.out; have := HJ45.out; have := HK4.out; omega⟩, ⟨bk⟩, ⟨bw⟩⟩
      ·rw [if_neg c44] at H
       have c44b0 : decide (x8_2 < (l0_3.length : Int)) = false := decide_eq_false c44
       clear c44
       replace H := Option.bind_eq_some_iff.mp H
       obtain ⟨⟨t369, t370⟩, A700, H⟩ := H
       replace H : (some (t370 == 0)) = some r := H
       have A70 := Aside0.mk A700
       clear A700
       obtain rfl := Option.some.inj H
       obtain ⟨z71_0, z71_1, z71_2, z71_3, z71_4, z71_5, y71_0, y71_1, y71_2, y71_3, y71_4, y71_5⟩ := cells6 BK362.out
       go_wp2_with (first | (go_at_call 70; (with_reducible refine (bluebellref02_Quote.calls k2 a0_0 t369 t370 _ A70.out).mono ?_); rintro e w' ⟨rfl, ⟨nd, rfl⟩⟩; (try first | exact ⟨rfl, _, World.drewN_drewN _ _ _⟩ | exact ⟨rfl, _, Eq.trans (World.drewN_drewN _ _ _) (congrArg (World.drewN _) (Nat.add_assoc _ _ _))⟩)))
       repeat (go_quiet (first | (go_at_call 70; (with_reducible refine (bluebellref02_Quote.calls k2 a0_0 t369 t370 _ A70.out).mono ?_); rintro e w' ⟨rfl, ⟨nd, rfl⟩⟩; (try first | exact ⟨rfl, _, World.drewN_drewN _ _ _⟩ | exact ⟨rfl, _, Eq.trans (World.drewN_drewN _ _ _) (congrArg (World.drewN _) (Nat.add_assoc _ _ _))⟩))); try go_wp2_with (first | (go_at_call 70; (with_reducible refine (bluebellref02_Quote.calls k2 a0_0 t369 t370 _ A70.out).mono ?_); rintro e w' ⟨rfl, ⟨nd, rfl⟩⟩; (try first | exact ⟨rfl, _, World.drewN_drewN _ _ _⟩ | exact ⟨rfl, _, Eq.trans (World.drewN_drewN _ _ _) (congrArg (World.drewN _) (Nat.add_assoc _ _ _))⟩))))
       go_ret
       exact ⟨erE, bw⟩



/-! ### bluebellref06_tooMuch: function 42 -/
mutual
def bluebellref06_tooMuch.j0 : Nat → Bool → ByteArray → List (S47) → List (S35) → List (S68) → Int → Int → Option (Bool)
 | 0, _, _, _, _, _, _, _ => none
 | k + 1, x24, p0, p1, p2, p3, p4, p5 => if x24 = true then (some true) else (bluebellref06_tooMuch.l0 k 0 0 p0 p1 p2 p3 p4 p5)
def bluebellref06_tooMuch.l0 : Nat → Int → Int → ByteArray → List (S47) → List (S35) → List (S68) → Int → Int → Option (Bool)
 | 0, _, _, _, _, _, _, _, _ => none
 | k + 1, x3, x4, p0, p1, p2, p3, p4, p5 => if x4 < (p1.length : Int) then (if 0 ≤ x4 then (if (rd_T47 p1 x4).f1 = true then (bluebellref06_tooMuch.l0 k (wrap64 ((wrap64 (x3 + (((rd_T47 p1 x4).f2).length : Int))) + (wrap64 (Int.tdiv (wrap64 ((((rd_T47 p1 x4).f0).size : Int) + 2)) 2)))) (wrap64 (x4 + 1)) p0 p1 p2 p3 p4 p5) else (bluebellref06_tooMuch.l0 k (wrap64 (x3 + (((rd_T47 p1 x4).f2).length : Int))) (wrap64 (x4 + 1)) p0 p1 p2 p3 p4 p5)) else (none)) else (some (decide (x3 > 7800)))
end
def bluebellref06_tooMuch.f (k : Nat) (a0_0 : ByteArray) (l0_1 : List (S47)) (l0_2 : List (S35)) (l0_3 : List (S68)) (a0_4 : Int) (a0_5 : Int) : Option (Bool) := if (l0_2.length : Int) > 40000 then (bluebellref06_tooMuch.j0 k true a0_0 l0_1 l0_2 l0_3 a0_4 a0_5) else (if (l0_1.length : Int) > 2000 then (bluebellref06_tooMuch.j0 k true a0_0 l0_1 l0_2 l0_3 a0_4 a0_5) else (if a0_4 > 200 then (bluebellref06_tooMuch.j0 k true a0_0 l0_1 l0_2 l0_3 a0_4 a0_5) else (bluebellref06_tooMuch.j0 k (decide (a0_5 > 20000)) a0_0 l0_1 l0_2 l0_3 a0_4 a0_5)))
theorem bluebellref06_tooMuch.mono_l : ∀ k, (∀ y0 y1 y2 y3 y4 y5 y6, LeO (bluebellref06_tooMuch.j0 k y0 y1 y2 y3 y4 y5 y6) (bluebellref06_tooMuch.j0 (k + 1) y0 y1 y2 y3 y4 y5 y6)) ∧ (∀ y0 y1 y2 y3 y4 y5 y6 y7, LeO (bluebellref06_tooMuch.l0 k y0 y1 y2 y3 y4 y5 y6 y7) (bluebellref06_tooMuch.l0 (k + 1) y0 y1 y2 y3 y4 y5 y6 y7))
 | 0 => ⟨fun _ _ _ _ _ _ _ r h => by simp [bluebellref06_tooMuch.j0] at h, fun _ _ _ _ _ _ _ _ r h => by simp [bluebellref06_tooMuch.l0] at h⟩
 | k + 1 => by
  obtain ⟨ih0, ih1⟩ := bluebellref06_tooMuch.mono_l k
  refine ⟨?_, ?_⟩
  ·intro y0 y1 y2 y3 y4 y5 y6
   unfold bluebellref06_tooMuch.j0
   repeat' first
   | (with_reducible exact ih0 _ _ _ _ _ _ _)
   | (with_reducible exact ih1 _ _ _ _ _ _ _ _)
   | (with_reducible exact LeO.refl _)
   | (with_reducible exact LeO.none _)
   | (with_reducible refine LeO.ite ?_ ?_)
   | (with_reducible refine LeO.bind ?_ (fun _ => ?_))
   | exact ih0 _ _ _ _ _ _ _
   | exact ih1 _ _ _ _ _ _ _ _
   | exact LeO.none _
   | refine LeO.ite ?_ ?_
   | refine LeO.bind ?_ (fun _ => ?_)
  ·intro y0 y1 y2 y3 y4 y5 y6 y7
   unfold bluebellref06_tooMuch.l0
   repeat' first
   | (with_reducible exact ih0 _ _ _ _ _ _ _)
   | (with_reducible exact ih1 _ _ _ _ _ _ _ _)
   | (with_reducible exact LeO.refl _)
   | (with_reducible exact LeO.none _)
   | (with_reducible refine LeO.ite ?_ ?_)
   | (with_reducible refine LeO.bind ?_ (fun _ => ?_))
   | exact ih0 _ _ _ _ _ _ _
   | exact ih1 _ _ _ _ _ _ _ _
   | exact LeO.none _
   | refine LeO.ite ?_ ?_
   | refine LeO.bind ?_ (fun _ => ?_)
theorem bluebellref06_tooMuch.mono : ∀ a0 a1 a2 a3 a4 a5 k, LeO (bluebellref06_tooMuch.f k a0 a1 a2 a3 a4 a5) (bluebellref06_tooMuch.f (k + 1) a0 a1 a2 a3 a4 a5) := by
 intro a0 a1 a2 a3 a4 a5 k
 obtain ⟨ih0, ih1⟩ := bluebellref06_tooMuch.mono_l k
 unfold bluebellref06_tooMuch.f
 repeat' first
   | (with_reducible exact ih0 _ _ _ _ _ _ _)
   | (with_reducible exact ih1 _ _ _ _ _ _ _ _)
   | (with_reducible exact LeO.refl _)
   | (with_reducible exact LeO.none _)
   | (with_reducible refine LeO.ite ?_ ?_)
   | (with_reducible refine LeO.bind ?_ (fun _ => ?_))
   | exact ih0 _ _ _ _ _ _ _
   | exact ih1 _ _ _ _ _ _ _ _
   | exact LeO.none _
   | refine LeO.ite ?_ ?_
   | refine LeO.bind ?_ (fun _ => ?_)
set_option maxHeartbeats 8000000 in
set_option maxRecDepth 100000 in
theorem bluebellref06_tooMuch.calls (k : Nat) (a0_0 : ByteArray) (A0_1 : Option Addr) (c0_1 : Nat) (l0_1 : List (S47)) (A0_2 : Option Addr) (c0_2 : Nat) (l0_2 : List (S35)) (A0_3 : Option Addr) (c0_3 : Nat) (l0_3 : List (S68)) (a0_4 : Int) (a0_5 : Int) (r : Bool) (w : World) (hr0_1 : Kd.C k47 w A0_1 l0_1.length l0_1) (hc0_1 : l0_1.length ≤ c0_1) (hr0_2 : Kd.C k35 w A0_2 l0_2.length l0_2) (hc0_2 : l0_2.length ≤ c0_2) (hr0_3 : Kd.C k68 w A0_3 l0_3.length l0_3) (hc0_3 : l0_3.length ≤ c0_3) (h : bluebellref06_tooMuch.f k a0_0 l0_1 l0_2 l0_3 a0_4 a0_5 = some r) :
  Calls Try.prog 42 #[.agg #[.string a0_0, .slice A0_1 l0_1.length c0_1, .slice A0_2 l0_2.length c0_2, .slice A0_3 l0_3.length c0_3, .int .i64 a0_4, .int .i64 a0_5]] w fun e w' => e = .returned (.bool r) ∧ Below w.heap.size w w' := by
 have hu26 := Try.underlying26
 have HR0_1 := Aside0.mk hr0_1
 have HC0_1 := Aside0.mk hc0_1
 clear hr0_1 hc0_1
 have HR0_2 := Aside0.mk hr0_2
 have HC0_2 := Aside0.mk hc0_2
 clear hr0_2 hc0_2
 have HR0_3 := Aside0.mk hr0_3
 have HC0_3 := Aside0.mk hc0_3
 clear hr0_3 hc0_3
 have HB := Aside0.mk (Below.refl w.heap.size w)
 have H : (if (l0_2.length : Int) > 40000 then (bluebellref06_tooMuch.j0 k true a0_0 l0_1 l0_2 l0_3 a0_4 a0_5) else (if (l0_1.length : Int) > 2000 then (bluebellref06_tooMuch.j0 k true a0_0 l0_1 l0_2 l0_3 a0_4 a0_5) else (if a0_4 > 200 then (bluebellref06_tooMuch.j0 k true a0_0 l0_1 l0_2 l0_3 a0_4 a0_5) else (bluebellref06_tooMuch.j0 k (decide (a0_5 > 20000)) a0_0 l0_1 l0_2 l0_3 a0_4 a0_5)))) = some r := h
 clear h
 have HC2 := Aside0.mk H
 clear H
 go_enter Try.func42, Try.ntmps42
 go_upto_region 1 with (first | ((with_reducible refine gate_dst (N := 1) rfl ?_); (try (refine gate_guard (by rfl) ?_; dsimp only)); refine boxev (N := 1) (cs := #[.string a0_0, .slice A0_1 l0_1.length c0_1, .slice A0_2 l0_2.length c0_2, .slice A0_3 l0_3.length c0_3, .int .i64 a0_4, .int .i64 a0_5]) (t := 26) ?_; intro gb358 hg w3 hbox hb; have BK358 := Aside0.mk (hbox); have GW358 := Aside0.mk ((by rw [hg]; exact bsz : w.heap.size ≤ gb358)); have GE358 := Aside0.mk ((by rw [hg]; exact bsz : w.heap.size ≤ gb358)); replace HB := Aside0.mk (bstep hb); clear hb hbox hg))
 (try simp only [Act.put, List.setIfInBounds_toArray, List.set_cons_zero, List.set_cons_succ])
 go_cut [24] (fun v24 wc => ∃ (kq : Nat) (x24_1 : Bool), v24 = .bool x24_1 ∧ Aside0 (bluebellref06_tooMuch.j0 kq x24_1 a0_0 l0_1 l0_2 l0_3 a0_4 a0_5 = some r) ∧ Aside0 (kq ≤ k) ∧ Aside0 (wc.heap[gb358]? = some (.cells #[.string a0_0, (.slice A0_1 l0_1.length c0_1), (.slice A0_2 l0_2.length c0_2), (.slice A0_3 l0_3.length c0_3), .int .i64 a0_4, .int .i64 a0_5] 26 (0, 0))) ∧ Aside0 (Below w.heap.size w wc))
 case first =>
  have H := HC2.out
  clear HC2
  by_cases c4 : (l0_2.length : Int) > 40000
  ·rw [if_pos c4] at H
   have c4b0 : decide (40000 < (l0_2.length : Int)) = true := decide_eq_true c4
   have c4b1 : decide (40000 < l0_2.length) = true := decide_eq_true (by omega)
   clear c4
   (first | rw [c4b0] | (simp only [i64_w, i32_w]; rw [c4b0]) | skip)
   have H' := Aside0.mk H
   clear H
   obtain ⟨z5_0, z5_1, z5_2, z5_3, z5_4, z5_5, y5_0, y5_1, y5_2, y5_3, y5_4, y5_5⟩ := cells6 BK358.out
   go_wp2
   (first | go_meet | (refine Met.intro ?_; go_step; (repeat apply Exists.intro); refine ⟨?rel, ?fr_⟩; (case fr_ => first | (simp only [c4b1, c4b0]; done) | (simp only [c4b1, c4b0]; rfl) | (simp only [c4b1, c4b0]; rfl))))
   case rel => exact ⟨_, (true), wrE, H', ⟨by first | omega | exact Nat.le_refl _⟩, ⟨bk⟩, ⟨bw⟩⟩
  ·rw [if_neg c4] at H
   have c4b0 : decide (40000 < (l0_2.length : Int)) = false := decide_eq_false c4
   have c4b1 : decide (40000 < l0_2.length) = false := decide_eq_false (by omega)
   clear c4
   (first | rw [c4b0] | (simp only [i64_w, i32_w]; rw [c4b0]) | skip)
   by_cases c6 : (l0_1.length : Int) > 2000
   ·rw [if_pos c6] at H
    have c6b0 : decide (2000 < (l0_1.length : Int)) = true := decide_eq_true c6
    have c6b1 : decide (2000 < l0_1.length) = true := decide_eq_true (by omega)
    clear c6
    have H' := Aside0.mk H
    clear H
    obtain ⟨z7_0, z7_1, z7_2, z7_3, z7_4, z7_5, y7_0, y7_1, y7_2, y7_3, y7_4, y7_5⟩ := cells6 BK358.out
    go_wp2
    (first | go_meet | (refine Met.intro ?_; go_step; (repeat apply Exists.intro); refine ⟨?rel, ?fr_⟩; (case fr_ => first | (simp only [c6b1, c6b0, c4b1, c4b0]; done) | (simp only [c6b1, c6b0, c4b1, c4b0]; rfl) | (simp only [c6b1, c6b0, c4b1, c4b0]; rfl))))
    case rel => exact ⟨_, (true), wrE, H', ⟨by first | omega | exact Nat.le_refl _⟩, ⟨bk⟩, ⟨bw⟩⟩
   ·rw [if_neg c6] at H
    have c6b0 : decide (2000 < (l0_1.length : Int)) = false := decide_eq_false c6
    have c6b1 : decide (2000 < l0_1.length) = false := decide_eq_false (by omega)
    clear c6
    by_cases c8 : a0_4 > 200
    ·rw [if_pos c8] at H
     have c8b0 : decide (200 < a0_4) = true := decide_eq_true c8
     clear c8
     have H' := Aside0.mk H
     clear H
     obtain ⟨z9_0, z9_1, z9_2, z9_3, z9_4, z9_5, y9_0, y9_1, y9_2, y9_3, y9_4, y9_5⟩ := cells6 BK358.out
     go_wp2
     (first | go_meet | (refine Met.intro ?_; go_step; (repeat apply Exists.intro); refine ⟨?rel, ?fr_⟩; (case fr_ => first | (simp only [c8b0, c6b1, c6b0, c4b1, c4b0]; done) | (simp only [c8b0, c6b1, c6b0, c4b1, c4b0]; rfl) | (simp only [c8b0, c6b1, c6b0, c4b1, c4b0]; rfl))))
     case rel => exact ⟨_, (true), wrE, H', ⟨by first | omega | exact Nat.le_refl _⟩, ⟨bk⟩, ⟨bw⟩⟩
    ·rw [if_neg c8] at H
     have c8b0 : decide (200 < a0_4) = false := decide_eq_false c8
     clear c8
     have H' := Aside0.mk H
     clear H
     obtain ⟨z10_0, z10_1, z10_2, z10_3, z10_4, z10_5, y10_0, y10_1, y10_2, y10_3, y10_4, y10_5⟩ := cells6 BK358.out
     go_wp2
     (first | go_meet | (refine Met.intro ?_; go_step; (repeat apply Exists.intro); refine ⟨?rel, ?fr_⟩; (case fr_ => first | (simp only [c8b0, c6b1, c6b0, c4b1, c4b0]; done) | (simp only [c8b0, c6b1, c6b0, c4b1, c4b0]; rfl) | (simp only [c8b0, c6b1, c6b0, c4b1, c4b0]; rfl))))
     case rel => exact ⟨_, (decide (a0_5 > 20000)), wrE, H', ⟨by first | omega | exact Nat.le_refl _⟩, ⟨bk⟩, ⟨bw⟩⟩
 case rest =>
  clear HC2
  obtain ⟨kq, x24_1, rfl, HA, HJ1, BK358, HB⟩ := hcut
  cases kq with
  | zero => exact absurd HA.out (by simp [bluebellref06_tooMuch.j0])
  | succ kj1 =>
   have H := HA.out
   clear HA
   simp only [bluebellref06_tooMuch.j0] at H
   by_cases c11 : x24_1 = true
   ·subst c11
    have H1 : (some true) = some r := by rw [if_pos rfl] at H; exact H
    clear H
    have H := H1
    clear H1
    obtain rfl := Option.some.inj H
    go_wp2
    go_ret
    exact ⟨erE, bw⟩
   ·replace c11 := Bool.eq_false_iff.mpr c11
    subst c11
    have H1 : (bluebellref06_tooMuch.l0 kj1 0 0 a0_0 l0_1 l0_2 l0_3 a0_4 a0_5) = some r := by rw [if_neg (show ¬ (false = true) by decide)] at H; exact H
    clear H
    have H := H1
    clear H1
    have H' := Aside0.mk H
    clear H
    go_wp2
    go_loopg [3, 4] kj1 (fun kq v3 v4 w' => ∃ (x3_2 : Int) (x4_2 : Int), v3 = .int .i64 x3_2 ∧ v4 = .int .i64 x4_2 ∧ Aside0 (bluebellref06_tooMuch.l0 kq x3_2 x4_2 a0_0 l0_1 l0_2 l0_3 a0_4 a0_5 = some r) ∧ Aside0 (kq ≤ kj1) ∧ Aside0 (w'.heap[gb358]? = some (.cells #[.string a0_0, (.slice A0_1 l0_1.length c0_1), (.slice A0_2 l0_2.length c0_2), (.slice A0_3 l0_3.length c0_3), .int .i64 a0_4, .int .i64 a0_5] 26 (0, 0))) ∧ Aside0 (Below w.heap.size w w'))
    case atStart => exact ⟨(0), (0), wrE, wrE, H', ⟨Nat.le_refl _⟩, ⟨bk⟩, ⟨bw⟩⟩
    case round =>
     clear H'
     obtain ⟨x3_2, x4_2, rfl, rfl, HA, HK2, BK358, HB⟩ := hrel
     cases gk with
     | zero => exact absurd HA.out (by simp [bluebellref06_tooMuch.l0])
     | succ k2 =>
      have H := HA.out
      clear HA
      simp only [bluebellref06_tooMuch.l0] at H
      by_cases c12 : x4_2 < (l0_1.length : Int)
      ·rw [if_pos c12] at H
       have c12b0 : decide (x4_2 < (l0_1.length : Int)) = true := decide_eq_true c12
       clear c12
       by_cases c13 : 0 ≤ x4_2
       rotate_left
       ·rw [if_neg c13] at H
        exact absurd H (by simp)
       rw [if_pos c13] at H
       have c13b0 : decide (0 ≤ x4_2) = true := decide_eq_true c13
       clear c13
       obtain ⟨bq14, hbq14⟩ : ∃ b_ : Bool, b_ = ((rd_T47 l0_1 x4_2).f1) := ⟨_, rfl⟩
       replace H : (if bq14 = true then (bluebellref06_tooMuch.l0 k2 (wrap64 ((wrap64 (x3_2 + (((rd_T47 l0_1 x4_2).f2).length : Int))) + (wrap64 (Int.tdiv (wrap64 ((((rd_T47 l0_1 x4_2).f0).size : Int) + 2)) 2)))) (wrap64 (x4_2 + 1)) a0_0 l0_1 l0_2 l0_3 a0_4 a0_5) else (bluebellref06_tooMuch.l0 k2 (wrap64 (x3_2 + (((rd_T47 l0_1 x4_2).f2).length : Int))) (wrap64 (x4_2 + 1)) a0_0 l0_1 l0_2 l0_3 a0_4 a0_5)) = some r := by rw [← hbq14] at H; exact H
       have Nbq14 := Aside0.mk hbq14
       clear hbq14
       by_cases c15 : bq14 = true
       ·subst c15
        have H1 : (bluebellref06_tooMuch.l0 k2 (wrap64 ((wrap64 (x3_2 + (((rd_T47 l0_1 x4_2).f2).length : Int))) + (wrap64 (Int.tdiv (wrap64 ((((rd_T47 l0_1 x4_2).f0).size : Int) + 2)) 2)))) (wrap64 (x4_2 + 1)) a0_0 l0_1 l0_2 l0_3 a0_4 a0_5) = some r := by rw [if_pos rfl] at H; exact H
        clear H
        have H := H1
        clear H1
        have H' := Aside0.mk H
        clear H
        obtain ⟨z16_0, z16_1, z16_2, z16_3, z16_4, z16_5, y16_0, y16_1, y16_2, y16_3, y16_4, y16_5⟩ := cells6 BK358.out
        have p359 : 0 ≤ (x4_2 : Int) := ofd
        have q359 : x4_2 < (l0_1.length : Int) := ofd
        obtain ⟨ad359, A359_2, c359_2, e359, hx359_0, hx359_1, hx359_2, hl359_2, hi359_2⟩ := at_T47 HR0_1.out x4_2 p359 q359
        (try rw [← Nbq14.out] at hx359_1)
        cases e359
        replace hx359_0 := hxE HB.out hx359_0
        replace hx359_1 := hxE HB.out hx359_1
        replace hx359_2 := hxE HB.out hx359_2
        have HR359_2 := Aside0.mk hi359_2
        have HC359_2 := Aside0.mk hl359_2
        clear hi359_2 hl359_2
        replace p359 := eq_true p359
        replace q359 := eq_true q359
        have p360 : 0 ≤ (x4_2 : Int) := ofd
        have q360 : x4_2 < (l0_1.length : Int) := ofd
        obtain ⟨ad360, A360_2, c360_2, e360, hx360_0, hx360_1, hx360_2, hl360_2, hi360_2⟩ := at_T47 HR0_1.out x4_2 p360 q360
        (try rw [← Nbq14.out] at hx360_1)
        obtain rfl : ad359 = ad360 := (by injection e360)
        replace hx360_0 := hxE HB.out hx360_0
        replace hx360_1 := hxE HB.out hx360_1
        replace hx360_2 := hxE HB.out hx360_2
        have HR360_2 := Aside0.mk hi360_2
        have HC360_2 := Aside0.mk hl360_2
        clear hi360_2 hl360_2
        replace p360 := eq_true p360
        replace q360 := eq_true q360
        have ea_ := Option.some.inj (hx359_2.symm.trans hx360_2)
        injection ea_ with ea_ en_ ec_
        subst ea_
        subst ec_
        clear en_
        have p361 : 0 ≤ (x4_2 : Int) := ofd
        have q361 : x4_2 < (l0_1.length : Int) := ofd
        obtain ⟨ad361, A361_2, c361_2, e361, hx361_0, hx361_1, hx361_2, hl361_2, hi361_2⟩ := at_T47 HR0_1.out x4_2 p361 q361
        (try rw [← Nbq14.out] at hx361_1)
        obtain rfl : ad359 = ad361 := (by injection e361)
        replace hx361_0 := hxE HB.out hx361_0
        replace hx361_1 := hxE HB.out hx361_1
        replace hx361_2 := hxE HB.out hx361_2
        have HR361_2 := Aside0.mk hi361_2
        have HC361_2 := Aside0.mk hl361_2
        clear hi361_2 hl361_2
        replace p361 := eq_true p361
        replace q361 := eq_true q361
        have ea_ := Option.some.inj (hx359_2.symm.trans hx361_2)
        injection ea_ with ea_ en_ ec_
        subst ea_
        subst ec_
        clear en_
        go_wp2
        go_roundg k2
        case measure => have := HJ1.out; have := HK2.out; omega
        case rel => exact ⟨(wrap64 ((wrap64 (x3_2 + (((rd_T47 l0_1 x4_2).f2).length : Int))) + (wrap64 (Int.tdiv (wrap64 ((((rd_T47 l0_1 x4_2).f0).size : Int) + 2)) 2)))), (wrap64 (x4_2 + 1)), wrE, wrE, H', ⟨by have := HJ1.out; have := HK2.out; omega⟩, ⟨bk⟩, ⟨bw⟩⟩
       ·replace c15 := Bool.eq_false_iff.mpr c15
        subst c15
        have H1 : (bluebellref06_tooMuch.l0 k2 (wrap64 (x3_2 + (((rd_T47 l0_1 x4_2).f2).length : Int))) (wrap64 (x4_2 + 1)) a0_0 l0_1 l0_2 l0_3 a0_4 a0_5) = some r := by rw [if_neg (show ¬ (false = true) by decide)] at H; exact H
        clear H
        have H := H1
        clear H1
        have H' := Aside0.mk H
        clear H
        obtain ⟨z17_0, z17_1, z17_2, z17_3, z17_4, z17_5, y17_0, y17_1, y17_2, y17_3, y17_4, y17_5⟩ := cells6 BK358.out
        have p359 : 0 ≤ (x4_2 : Int) := ofd
        have q359 : x4_2 < (l0_1.length : Int) := ofd
        obtain ⟨ad359, A359_2, c359_2, e359, hx359_0, hx359_1, hx359_2, hl359_2, hi359_2⟩ := at_T47 HR0_1.out x4_2 p359 q359
        (try rw [← Nbq14.out] at hx359_1)
        cases e359
        replace hx359_0 := hxE HB.out hx359_0
        replace hx359_1 := hxE HB.out hx359_1
        replace hx359_2 := hxE HB.out hx359_2
        have HR359_2 := Aside0.mk hi359_2
        have HC359_2 := Aside0.mk hl359_2
        clear hi359_2 hl359_2
        replace p359 := eq_true p359
        replace q359 := eq_true q359
        have p360 : 0 ≤ (x4_2 : Int) := ofd
        have q360 : x4_2 < (l0_1.length : Int) := ofd
        obtain ⟨ad360, A360_2, c360_2, e360, hx360_0, hx360_1, hx360_2, hl360_2, hi360_2⟩ := at_T47 HR0_1.out x4_2 p360 q360
        (try rw [← Nbq14.out] at hx360_1)
        obtain rfl : ad359 = ad360 := (by injection e360)
        replace hx360_0 := hxE HB.out hx360_0
        replace hx360_1 := hxE HB.out hx360_1
        replace hx360_2 := hxE HB.out hx360_2
        have HR360_2 := Aside0.mk hi360_2
        have HC360_2 := Aside0.mk hl360_2
        clear hi360_2 hl360_2
        replace p360 := eq_true p360
        replace q360 := eq_true q360
        have ea_ := Option.some.inj (hx359_2.symm.trans hx360_2)
        injection ea_ with ea_ en_ ec_
        subst ea_
        subst ec_
        clear en_
        go_wp2
        go_roundg k2
        case measure => have := HJ1.out; have := HK2.out; omega
        case rel => exact ⟨(wrap64 (x3_2 + (((rd_T47 l0_1 x4_2).f2).length : Int))), (wrap64 (x4_2 + 1)), wrE, wrE, H', ⟨by have := HJ1.out; have := HK2.out; omega⟩, ⟨bk⟩, ⟨bw⟩⟩
      ·rw [if_neg c12] at H
       have c12b0 : decide (x4_2 < (l0_1.length : Int)) = false := decide_eq_false c12
       clear c12
       obtain rfl := Option.some.inj H
       obtain ⟨z18_0, z18_1, z18_2, z18_3, z18_4, z18_5, y18_0, y18_1, y18_2, y18_3, y18_4, y18_5⟩ := cells6 BK358.out
       go_wp2
       go_ret
       exact ⟨erE, bw⟩



/-! ### bluebellref06_Check: function 22 -/
mutual
def bluebellref06_Check.j0 : Nat → Bool → ByteArray → List (S47) → List (S35) → List (S68) → Int → Int → Option (Int)
 | 0, _, _, _, _, _, _, _ => none
 | k + 1, x20, p0, p1, p2, p3, p4, p5 => if x20 = true then (some 60) else (bluebellref06_Check.l0 k 0 p0 p1 p2 p3 p4 p5)
def bluebellref06_Check.l0 : Nat → Int → ByteArray → List (S47) → List (S35) → List (S68) → Int → Int → Option (Int)
 | 0, _, _, _, _, _, _, _ => none
 | k + 1, x3, p0, p1, p2, p3, p4, p5 => if x3 < (p2.length : Int) then (if 0 ≤ x3 then ((bluebellref06_numbers.f k p0 p1 p2 p3 p4 p5 ((rd_T35 p2 x3).f0) ((rd_T35 p2 x3).f1) ((rd_T35 p2 x3).f2)).bind fun t453 => (if t453 = true then (bluebellref06_Check.l0 k (wrap64 (x3 + 1)) p0 p1 p2 p3 p4 p5) else (some 60))) else (none)) else ((bluebellref06_order.f k p0 p1 p2 p3 p4 p5).bind fun t454 => (if t454 = true then ((bluebellref06_placed.f k p0 p1 p2 p3 p4 p5).bind fun bt455 => (if bt455.2.2 = true then ((bluebellref06_deep.f k p0 p1 p2 p3 p4 p5 bt455.1 bt455.2.1).bind fun t463 => (if t463 = true then (some 0) else (some 61))) else (some 60))) else (some 60)))
end
def bluebellref06_Check.f (k : Nat) (a0_0 : ByteArray) (l0_1 : List (S47)) (l0_2 : List (S35)) (l0_3 : List (S68)) (a0_4 : Int) (a0_5 : Int) : Option (Int) := (bluebellref06_tooMuch.f k a0_0 l0_1 l0_2 l0_3 a0_4 a0_5).bind fun t450 => (if t450 = true then (some 2) else (if a0_4 < 0 then (bluebellref06_Check.j0 k true a0_0 l0_1 l0_2 l0_3 a0_4 a0_5) else (if a0_5 < 0 then (bluebellref06_Check.j0 k true a0_0 l0_1 l0_2 l0_3 a0_4 a0_5) else ((bluebellref06_areas.f k a0_0 l0_1 l0_2 l0_3 a0_4 a0_5).bind fun t451 => (bluebellref06_Check.j0 k (!t451) a0_0 l0_1 l0_2 l0_3 a0_4 a0_5)))))
theorem bluebellref06_Check.mono_l : ∀ k, (∀ y0 y1 y2 y3 y4 y5 y6, LeO (bluebellref06_Check.j0 k y0 y1 y2 y3 y4 y5 y6) (bluebellref06_Check.j0 (k + 1) y0 y1 y2 y3 y4 y5 y6)) ∧ (∀ y0 y1 y2 y3 y4 y5 y6, LeO (bluebellref06_Check.l0 k y0 y1 y2 y3 y4 y5 y6) (bluebellref06_Check.l0 (k + 1) y0 y1 y2 y3 y4 y5 y6))
 | 0 => ⟨fun _ _ _ _ _ _ _ r h => by simp [bluebellref06_Check.j0] at h, fun _ _ _ _ _ _ _ r h => by simp [bluebellref06_Check.l0] at h⟩
 | k + 1 => by
  obtain ⟨ih0, ih1⟩ := bluebellref06_Check.mono_l k
  refine ⟨?_, ?_⟩
  ·intro y0 y1 y2 y3 y4 y5 y6
   unfold bluebellref06_Check.j0
   repeat' first
   | (with_reducible exact ih0 _ _ _ _ _ _ _)
   | (with_reducible exact ih1 _ _ _ _ _ _ _)
   | (with_reducible exact bluebellref06_areas.mono _ _ _ _ _ _ _)
   | (with_reducible exact bluebellref06_deep.mono _ _ _ _ _ _ _ _ _)
   | (with_reducible exact bluebellref06_numbers.mono _ _ _ _ _ _ _ _ _ _)
   | (with_reducible exact bluebellref06_order.mono _ _ _ _ _ _ _)
   | (with_reducible exact bluebellref06_placed.mono _ _ _ _ _ _ _)
   | (with_reducible exact bluebellref06_tooMuch.mono _ _ _ _ _ _ _)
   | (with_reducible exact LeO.refl _)
   | (with_reducible exact LeO.none _)
   | (with_reducible refine LeO.ite ?_ ?_)
   | (with_reducible refine LeO.bind ?_ (fun _ => ?_))
   | exact ih0 _ _ _ _ _ _ _
   | exact ih1 _ _ _ _ _ _ _
   | exact bluebellref06_areas.mono _ _ _ _ _ _ _
   | exact bluebellref06_deep.mono _ _ _ _ _ _ _ _ _
   | exact bluebellref06_numbers.mono _ _ _ _ _ _ _ _ _ _
   | exact bluebellref06_order.mono _ _ _ _ _ _ _
   | exact bluebellref06_placed.mono _ _ _ _ _ _ _
   | exact bluebellref06_tooMuch.mono _ _ _ _ _ _ _
   | exact LeO.none _
   | refine LeO.ite ?_ ?_
   | refine LeO.bind ?_ (fun _ => ?_)
  ·intro y0 y1 y2 y3 y4 y5 y6
   unfold bluebellref06_Check.l0
   repeat' first
   | (with_reducible exact ih0 _ _ _ _ _ _ _)
   | (with_reducible exact ih1 _ _ _ _ _ _ _)
   | (with_reducible exact bluebellref06_areas.mono _ _ _ _ _ _ _)
   | (with_reducible exact bluebellref06_deep.mono _ _ _ _ _ _ _ _ _)
   | (with_reducible exact bluebellref06_numbers.mono _ _ _ _ _ _ _ _ _ _)
   | (with_reducible exact bluebellref06_order.mono _ _ _ _ _ _ _)
   | (with_reducible exact bluebellref06_placed.mono _ _ _ _ _ _ _)
   | (with_reducible exact bluebellref06_tooMuch.mono _ _ _ _ _ _ _)
   | (with_reducible exact LeO.refl _)
   | (with_reducible exact LeO.none _)
   | (with_reducible refine LeO.ite ?_ ?_)
   | (with_reducible refine LeO.bind ?_ (fun _ => ?_))
   | exact ih0 _ _ _ _ _ _ _
   | exact ih1 _ _ _ _ _ _ _
   | exact bluebellref06_areas.mono _ _ _ _ _ _ _
   | exact bluebellref06_deep.mono _ _ _ _ _ _ _ _ _
   | exact bluebellref06_numbers.mono _ _ _ _ _ _ _ _ _ _
   | exact bluebellref06_order.mono _ _ _ _ _ _ _
   | exact bluebellref06_placed.mono _ _ _ _ _ _ _
   | exact bluebellref06_tooMuch.mono _ _ _ _ _ _ _
   | exact LeO.none _
   | refine LeO.ite ?_ ?_
   | refine LeO.bind ?_ (fun _ => ?_)
theorem bluebellref06_Check.mono : ∀ a0 a1 a2 a3 a4 a5 k, LeO (bluebellref06_Check.f k a0 a1 a2 a3 a4 a5) (bluebellref06_Check.f (k + 1) a0 a1 a2 a3 a4 a5) := by
 intro a0 a1 a2 a3 a4 a5 k
 obtain ⟨ih0, ih1⟩ := bluebellref06_Check.mono_l k
 unfold bluebellref06_Check.f
 repeat' first
   | (with_reducible exact ih0 _ _ _ _ _ _ _)
   | (with_reducible exact ih1 _ _ _ _ _ _ _)
   | (with_reducible exact bluebellref06_areas.mono _ _ _ _ _ _ _)
   | (with_reducible exact bluebellref06_deep.mono _ _ _ _ _ _ _ _ _)
   | (with_reducible exact bluebellref06_numbers.mono _ _ _ _ _ _ _ _ _ _)
   | (with_reducible exact bluebellref06_order.mono _ _ _ _ _ _ _)
   | (with_reducible exact bluebellref06_placed.mono _ _ _ _ _ _ _)
   | (with_reducible exact bluebellref06_tooMuch.mono _ _ _ _ _ _ _)
   | (with_reducible exact LeO.refl _)
   | (with_reducible exact LeO.none _)
   | (with_reducible refine LeO.ite ?_ ?_)
   | (with_reducible refine LeO.bind ?_ (fun _ => ?_))
   | exact ih0 _ _ _ _ _ _ _
   | exact ih1 _ _ _ _ _ _ _
   | exact bluebellref06_areas.mono _ _ _ _ _ _ _
   | exact bluebellref06_deep.mono _ _ _ _ _ _ _ _ _
   | exact bluebellref06_numbers.mono _ _ _ _ _ _ _ _ _ _
   | exact bluebellref06_order.mono _ _ _ _ _ _ _
   | exact bluebellref06_placed.mono _ _ _ _ _ _ _
   | exact bluebellref06_tooMuch.mono _ _ _ _ _ _ _
   | exact LeO.none _
   | refine LeO.ite ?_ ?_
   | refine LeO.bind ?_ (fun _ => ?_)
def bluebellref06_Check.T8 : Bool × List (List Nat × List Nat) := (true, [([], []), ([], []), ([1], [1]), ([], []), ([2, 3], [2, 3]), ([4], [4]), ([0, 5], [0, 5]), ([6], [6])])
def bluebellref06_Check.B8 : List Nat := [0, 0, 2, 0, 14, 30, 63, 127]
theorem bluebellref06_Check.tab8 : rtab .any (opsOf Try.f22 8) = bluebellref06_Check.T8 := by kernel_rfl
theorem bluebellref06_Check.bits8 : waitsOk bluebellref06_Check.T8.2 bluebellref06_Check.B8 = true := by kernel_rfl
set_option maxHeartbeats 8000000 in
set_option maxRecDepth 100000 in
theorem bluebellref06_Check.calls (k : Nat) (a0_0 : ByteArray) (A0_1 : Option Addr) (c0_1 : Nat) (l0_1 : List (S47)) (A0_2 : Option Addr) (c0_2 : Nat) (l0_2 : List (S35)) (A0_3 : Option Addr) (c0_3 : Nat) (l0_3 : List (S68)) (a0_4 : Int) (a0_5 : Int) (r : Int) (w : World) (hr0_1 : Kd.C k47 w A0_1 l0_1.length l0_1) (hc0_1 : l0_1.length ≤ c0_1) (hr0_2 : Kd.C k35 w A0_2 l0_2.length l0_2) (hc0_2 : l0_2.length ≤ c0_2) (hr0_3 : Kd.C k68 w A0_3 l0_3.length l0_3) (hc0_3 : l0_3.length ≤ c0_3) (h : bluebellref06_Check.f k a0_0 l0_1 l0_2 l0_3 a0_4 a0_5 = some r) :
  Calls Try.prog 22 #[.agg #[.string a0_0, .slice A0_1 l0_1.length c0_1, .slice A0_2 l0_2.length c0_2, .slice A0_3 l0_3.length c0_3, .int .i64 a0_4, .int .i64 a0_5]] w fun e w' => e = .returned (.int .i64 r) ∧ Below w.heap.size w w' := by
 have hu26 := Try.underlying26
 have hu35 := Try.underlying35
 have hu60 := Try.underlying60
 have HR0_1 := Aside0.mk hr0_1
 have HC0_1 := Aside0.mk hc0_1
 clear hr0_1 hc0_1
 have HR0_2 := Aside0.mk hr0_2
 have HC0_2 := Aside0.mk hc0_2
 clear hr0_2 hc0_2
 have HR0_3 := Aside0.mk hr0_3
 have HC0_3 := Aside0.mk hc0_3
 clear hr0_3 hc0_3
 have HB := Aside0.mk (Below.refl w.heap.size w)
 have H : ((bluebellref06_tooMuch.f k a0_0 l0_1 l0_2 l0_3 a0_4 a0_5).bind fun t450 => (if t450 = true then (some 2) else (if a0_4 < 0 then (bluebellref06_Check.j0 k true a0_0 l0_1 l0_2 l0_3 a0_4 a0_5) else (if a0_5 < 0 then (bluebellref06_Check.j0 k true a0_0 l0_1 l0_2 l0_3 a0_4 a0_5) else ((bluebellref06_areas.f k a0_0 l0_1 l0_2 l0_3 a0_4 a0_5).bind fun t451 => (bluebellref06_Check.j0 k (!t451) a0_0 l0_1 l0_2 l0_3 a0_4 a0_5)))))) = some r := h
 clear h
 replace H := Option.bind_eq_some_iff.mp H
 obtain ⟨t450, A20, H⟩ := H
 replace H : (if t450 = true then (some 2) else (if a0_4 < 0 then (bluebellref06_Check.j0 k true a0_0 l0_1 l0_2 l0_3 a0_4 a0_5) else (if a0_5 < 0 then (bluebellref06_Check.j0 k true a0_0 l0_1 l0_2 l0_3 a0_4 a0_5) else ((bluebellref06_areas.f k a0_0 l0_1 l0_2 l0_3 a0_4 a0_5).bind fun t451 => (bluebellref06_Check.j0 k (!t451) a0_0 l0_1 l0_2 l0_3 a0_4 a0_5))))) = some r := H
 have A2 := Aside0.mk A20
 clear A20
 by_cases c3 : t450 = true
 ·subst c3
  have H1 : (some 2) = some r := by rw [if_pos rfl] at H; exact H
  clear H
  have H := H1
  clear H1
  obtain rfl := Option.some.inj H
  go_enter Try.func22, Try.ntmps22
  go_wp2_with (first | ((with_reducible refine gate_dst (N := 1) rfl ?_); refine boxev (N := 1) (cs := #[.string a0_0, .slice A0_1 l0_1.length c0_1, .slice A0_2 l0_2.length c0_2, .slice A0_3 l0_3.length c0_3, .int .i64 a0_4, .int .i64 a0_5]) (t := 26) ?_; intro gb449 hg w4 hbox hb; have BK449 := Aside0.mk (hbox); have GW449 := Aside0.mk ((by rw [hg]; exact bsz : w.heap.size ≤ gb449)); have GE449 := Aside0.mk ((by rw [hg]; exact bsz : w.heap.size ≤ gb449)); replace HB := Aside0.mk (bstep hb); clear hb hbox hg; obtain ⟨z5_0, z5_1, z5_2, z5_3, z5_4, z5_5, y5_0, y5_1, y5_2, y5_3, y5_4, y5_5⟩ := cells6 BK449.out) | ((with_reducible refine gate_callee (f := 42) rfl ?_); refine goesL_ (some 7) rfl rfl Try.func42 (by kernel_rfl) rfl #[.agg #[.string a0_0, .slice A0_1 l0_1.length c0_1, .slice A0_2 l0_2.length c0_2, .slice A0_3 l0_3.length c0_3, .int .i64 a0_4, .int .i64 a0_5]] rfl mpE ?_; (with_reducible refine (bluebellref06_tooMuch.calls k a0_0 _ _ l0_1 _ _ l0_2 _ _ l0_3 a0_4 a0_5 true _ ?side1 ?side2 ?side3 ?side4 ?side5 ?side6 A2.out).mono ?_); (case side1 => exact kcb HR0_1.out); (case side2 => exact HC0_1.out); (case side3 => exact kcb HR0_2.out); (case side4 => exact HC0_2.out); (case side5 => exact kcb HR0_3.out); (case side6 => exact HC0_3.out); rintro e w6 ⟨rfl, hb⟩; refine ⟨_, rfl, ?_⟩; replace BK449 := Aside0.mk (bkb (g := gb449) hb); replace HB := Aside0.mk (bstep hb); (try clear hb)))
  go_ret
  exact ⟨erE, bw⟩
 ·replace c3 := Bool.eq_false_iff.mpr c3
  subst c3
  have H1 : (if a0_4 < 0 then (bluebellref06_Check.j0 k true a0_0 l0_1 l0_2 l0_3 a0_4 a0_5) else (if a0_5 < 0 then (bluebellref06_Check.j0 k true a0_0 l0_1 l0_2 l0_3 a0_4 a0_5) else ((bluebellref06_areas.f k a0_0 l0_1 l0_2 l0_3 a0_4 a0_5).bind fun t451 => (bluebellref06_Check.j0 k (!t451) a0_0 l0_1 l0_2 l0_3 a0_4 a0_5)))) = some r := by rw [if_neg (show ¬ (false = true) by decide)] at H; exact H
  clear H
  have H := H1
  clear H1
  have HC7 := Aside0.mk H
  clear H
  go_enter Try.func22, Try.ntmps22
  go_upto_region 3 with (first | ((with_reducible refine gate_dst (N := 1) rfl ?_); refine boxev (N := 1) (cs := #[.string a0_0, .slice A0_1 l0_1.length c0_1, .slice A0_2 l0_2.length c0_2, .slice A0_3 l0_3.length c0_3, .int .i64 a0_4, .int .i64 a0_5]) (t := 26) ?_; intro gb449 hg w8 hbox hb; have BK449 := Aside0.mk (hbox); have GW449 := Aside0.mk ((by rw [hg]; exact bsz : w.heap.size ≤ gb449)); have GE449 := Aside0.mk ((by rw [hg]; exact bsz : w.heap.size ≤ gb449)); replace HB := Aside0.mk (bstep hb); clear hb hbox hg; obtain ⟨z9_0, z9_1, z9_2, z9_3, z9_4, z9_5, y9_0, y9_1, y9_2, y9_3, y9_4, y9_5⟩ := cells6 BK449.out) | ((with_reducible refine gate_callee (f := 42) rfl ?_); refine goesL_ (some 7) rfl rfl Try.func42 (by kernel_rfl) rfl #[.agg #[.string a0_0, .slice A0_1 l0_1.length c0_1, .slice A0_2 l0_2.length c0_2, .slice A0_3 l0_3.length c0_3, .int .i64 a0_4, .int .i64 a0_5]] rfl mpE ?_; (with_reducible refine (bluebellref06_tooMuch.calls k a0_0 _ _ l0_1 _ _ l0_2 _ _ l0_3 a0_4 a0_5 false _ ?side1 ?side2 ?side3 ?side4 ?side5 ?side6 A2.out).mono ?_); (case side1 => exact kcb HR0_1.out); (case side2 => exact HC0_1.out); (case side3 => exact kcb HR0_2.out); (case side4 => exact HC0_2.out); (case side5 => exact kcb HR0_3.out); (case side6 => exact HC0_3.out); rintro e w10 ⟨rfl, hb⟩; refine ⟨_, rfl, ?_⟩; replace BK449 := Aside0.mk (bkb (g := gb449) hb); replace HB := Aside0.mk (bstep hb); (try clear hb)))
  (try simp only [Act.put, List.setIfInBounds_toArray, List.set_cons_zero, List.set_cons_succ])
  go_cut [20] (fun v20 wc => ∃ (kq : Nat) (x20_6 : Bool), v20 = .bool x20_6 ∧ Aside0 (bluebellref06_Check.j0 kq x20_6 a0_0 l0_1 l0_2 l0_3 a0_4 a0_5 = some r) ∧ Aside0 (kq ≤ k) ∧ Aside0 (wc.heap[gb449]? = some (.cells #[.string a0_0, (.slice A0_1 l0_1.length c0_1), (.slice A0_2 l0_2.length c0_2), (.slice A0_3 l0_3.length c0_3), .int .i64 a0_4, .int .i64 a0_5] 26 (0, 0))) ∧ Aside0 (Below w.heap.size w wc))
  case first =>
   have H := HC7.out
   clear HC7
   by_cases c11 : a0_4 < 0
   ·rw [if_pos c11] at H
    have c11b0 : decide (a0_4 < 0) = true := decide_eq_true c11
    clear c11
    (first | rw [c11b0] | (simp only [i64_w, i32_w]; rw [c11b0]) | skip)
    have H' := Aside0.mk H
    clear H
    obtain ⟨z12_0, z12_1, z12_2, z12_3, z12_4, z12_5, y12_0, y12_1, y12_2, y12_3, y12_4, y12_5⟩ := cells6 BK449.out
    go_wp2
    (first | go_meet | (refine Met.intro ?_; go_step; (repeat apply Exists.intro); refine ⟨?rel, ?fr_⟩; (case fr_ => first | (simp only [c11b0]; done) | (simp only [c11b0]; rfl) | (simp only [c11b0]; rfl))))
    case rel => exact ⟨_, (true), wrE, H', ⟨by first | omega | exact Nat.le_refl _⟩, ⟨bk⟩, ⟨bw⟩⟩
   ·rw [if_neg c11] at H
    have c11b0 : decide (a0_4 < 0) = false := decide_eq_false c11
    clear c11
    (first | rw [c11b0] | (simp only [i64_w, i32_w]; rw [c11b0]) | skip)
    by_cases c13 : a0_5 < 0
    ·rw [if_pos c13] at H
     have c13b0 : decide (a0_5 < 0) = true := decide_eq_true c13
     clear c13
     have H' := Aside0.mk H
     clear H
     obtain ⟨z14_0, z14_1, z14_2, z14_3, z14_4, z14_5, y14_0, y14_1, y14_2, y14_3, y14_4, y14_5⟩ := cells6 BK449.out
     go_wp2
     (first | go_meet | (refine Met.intro ?_; go_step; (repeat apply Exists.intro); refine ⟨?rel, ?fr_⟩; (case fr_ => first | (simp only [c13b0, c11b0]; done) | (simp only [c13b0, c11b0]; rfl) | (simp only [c13b0, c11b0]; rfl))))
     case rel => exact ⟨_, (true), wrE, H', ⟨by first | omega | exact Nat.le_refl _⟩, ⟨bk⟩, ⟨bw⟩⟩
    ·rw [if_neg c13] at H
     have c13b0 : decide (a0_5 < 0) = false := decide_eq_false c13
     clear c13
     replace H := Option.bind_eq_some_iff.mp H
     obtain ⟨t451, A150, H⟩ := H
     replace H : (bluebellref06_Check.j0 k (!t451) a0_0 l0_1 l0_2 l0_3 a0_4 a0_5) = some r := H
     have A15 := Aside0.mk A150
     clear A150
     have H' := Aside0.mk H
     clear H
     obtain ⟨z16_0, z16_1, z16_2, z16_3, z16_4, z16_5, y16_0, y16_1, y16_2, y16_3, y16_4, y16_5⟩ := cells6 BK449.out
     go_wp2_with (first | (go_at_call 43; (with_reducible refine (bluebellref06_areas.calls k a0_0 _ _ l0_1 _ _ l0_2 _ _ l0_3 a0_4 a0_5 t451 _ ?side1 ?side2 ?side3 ?side4 ?side5 ?side6 A15.out).mono ?_); (case side1 => exact kcb HR0_1.out); (case side2 => exact HC0_1.out); (case side3 => exact kcb HR0_2.out); (case side4 => exact HC0_2.out); (case side5 => exact kcb HR0_3.out); (case side6 => exact HC0_3.out); rintro e w17 ⟨rfl, hb⟩; replace BK449 := Aside0.mk (bkb (g := gb449) hb); replace HB := Aside0.mk (bstep hb); (try clear hb)))
     (first | go_meet | (refine Met.intro ?_; go_step; (repeat apply Exists.intro); refine ⟨?rel, ?fr_⟩; (case fr_ => first | (simp only [c13b0, c11b0]; done) | (simp only [c13b0, c11b0]; rfl) | (simp only [c13b0, c11b0]; rfl))))
     case rel => exact ⟨_, (!t451), wrE, H', ⟨by first | omega | exact Nat.le_refl _⟩, ⟨bk⟩, ⟨bw⟩⟩
  case rest =>
   clear HC7
   clear z9_0 z9_1 z9_2 z9_3 z9_4 z9_5 y9_0 y9_1 y9_2 y9_3 y9_4 y9_5
   obtain ⟨kq, x20_6, rfl, HA, HJ6, BK449, HB⟩ := hcut
   cases kq with
   | zero => exact absurd HA.out (by simp [bluebellref06_Check.j0])
   | succ kj6 =>
    have H := HA.out
    clear HA
    simp only [bluebellref06_Check.j0] at H
    by_cases c18 : x20_6 = true
    ·subst c18
     have H1 : (some 60) = some r := by rw [if_pos rfl] at H; exact H
     clear H
     have H := H1
     clear H1
     obtain rfl := Option.some.inj H
     go_wp2
     go_ret
     exact ⟨erE, bw⟩
    ·replace c18 := Bool.eq_false_iff.mpr c18
     subst c18
     have H1 : (bluebellref06_Check.l0 kj6 0 a0_0 l0_1 l0_2 l0_3 a0_4 a0_5) = some r := by rw [if_neg (show ¬ (false = true) by decide)] at H; exact H
     clear H
     have H := H1
     clear H1
     have H' := Aside0.mk H
     clear H
     go_wp2
     go_loopg [3] kj6 (fun kq v3 w' => ∃ (x3_2 : Int), v3 = .int .i64 x3_2 ∧ Aside0 (bluebellref06_Check.l0 kq x3_2 a0_0 l0_1 l0_2 l0_3 a0_4 a0_5 = some r) ∧ Aside0 (kq ≤ kj6) ∧ Aside0 (w'.heap[gb449]? = some (.cells #[.string a0_0, (.slice A0_1 l0_1.length c0_1), (.slice A0_2 l0_2.length c0_2), (.slice A0_3 l0_3.length c0_3), .int .i64 a0_4, .int .i64 a0_5] 26 (0, 0))) ∧ Aside0 (Below w.heap.size w w'))
     case atStart => exact ⟨(0), wrE, H', ⟨Nat.le_refl _⟩, ⟨bk⟩, ⟨bw⟩⟩
     case round =>
      clear H'
      obtain ⟨x3_2, rfl, HA, HK2, BK449, HB⟩ := hrel
      cases gk with
      | zero => exact absurd HA.out (by simp [bluebellref06_Check.l0])
      | succ k2 =>
       have H := HA.out
       clear HA
       simp only [bluebellref06_Check.l0] at H
       by_cases c19 : x3_2 < (l0_2.length : Int)
       ·rw [if_pos c19] at H
        have c19b0 : decide (x3_2 < (l0_2.length : Int)) = true := decide_eq_true c19
        clear c19
        by_cases c20 : 0 ≤ x3_2
        rotate_left
        ·rw [if_neg c20] at H
         exact absurd H (by simp)
        rw [if_pos c20] at H
        have c20b0 : decide (0 ≤ x3_2) = true := decide_eq_true c20
        clear c20
        replace H := Option.bind_eq_some_iff.mp H
        obtain ⟨t453, A210, H⟩ := H
        replace H : (if t453 = true then (bluebellref06_Check.l0 k2 (wrap64 (x3_2 + 1)) a0_0 l0_1 l0_2 l0_3 a0_4 a0_5) else (some 60)) = some r := H
        have A21 := Aside0.mk A210
        clear A210
        by_cases c22 : t453 = true
        ·subst c22
         have H1 : (bluebellref06_Check.l0 k2 (wrap64 (x3_2 + 1)) a0_0 l0_1 l0_2 l0_3 a0_4 a0_5) = some r := by rw [if_pos rfl] at H; exact H
         clear H
         have H := H1
         clear H1
         have H' := Aside0.mk H
         clear H
         obtain ⟨z23_0, z23_1, z23_2, z23_3, z23_4, z23_5, y23_0, y23_1, y23_2, y23_3, y23_4, y23_5⟩ := cells6 BK449.out
         try go_wp2
         have n0_ := Aside0.mk (blk_drew BK449.out)
         have n1_ := Aside0.mk (below_drew1 HB.out)
         clear BK449
         clear HB
         have BK449 := n0_
         have HB := n1_
         clear n0_ n1_
         have p452 : 0 ≤ (x3_2 : Int) := ofd
         have q452 : x3_2 < (l0_2.length : Int) := ofd
         obtain ⟨ad452, e452, hx452_0, hx452_1, hx452_2⟩ := at_T35 HR0_2.out x3_2 p452 q452
         have hw452_2 := hx452_2
         have hw452_1 := hx452_1
         have hw452_0 := hx452_0
         cases e452
         replace hx452_0 := hxE HB.out hx452_0
         replace hx452_1 := hxE HB.out hx452_1
         replace hx452_2 := hxE HB.out hx452_2
         replace p452 := eq_true p452
         replace q452 := eq_true q452
         refine start_ (n := 8) (S := fun w' => w'.cell? ⟨gb449, 0, none⟩ = some (.string a0_0) ∧ w'.cell? ⟨gb449, 1, none⟩ = some (.slice A0_1 l0_1.length c0_1) ∧ w'.cell? ⟨gb449, 2, none⟩ = some (.slice (some ad452) l0_2.length c0_2) ∧ w'.cell? ⟨gb449, 3, none⟩ = some (.slice A0_3 l0_3.length c0_3) ∧ w'.cell? ⟨gb449, 4, none⟩ = some (.int .i64 a0_4) ∧ w'.cell? ⟨gb449, 5, none⟩ = some (.int .i64 a0_5) ∧ w'.cell? (ad452.add ((x3_2).toNat * 3)) = some (.int .i64 ((rd_T35 l0_2 x3_2).f0)) ∧ w'.cell? ⟨(ad452.add ((x3_2).toNat * 3)).block, (ad452.add ((x3_2).toNat * 3)).off + 1, none⟩ = some (.int .i64 ((rd_T35 l0_2 x3_2).f1)) ∧ w'.cell? ⟨(ad452.add ((x3_2).toNat * 3)).block, (ad452.add ((x3_2).toNat * 3)).off + 2, none⟩ = some (.int .i64 ((rd_T35 l0_2 x3_2).f2))) (ds := []) #[false, false, false, false, false, false, false, false] (by kernel_rfl) rfl rfl ⟨(blk_cell BK449.out 0).trans rfl, (blk_cell BK449.out 1).trans rfl, (blk_cell BK449.out 2).trans rfl, (blk_cell BK449.out 3).trans rfl, (blk_cell BK449.out 4).trans rfl, (blk_cell BK449.out 5).trans rfl, ((HB.out.cell (World.block_lt_of_cell? w _ hw452_0)).trans hw452_0), ((HB.out.cell (World.block_lt_of_cell? w _ hw452_1)).trans hw452_1), ((HB.out.cell (World.block_lt_of_cell? w _ hw452_2)).trans hw452_2)⟩ (fun hHeld => ?_); refine with_tabW bluebellref06_Check.tab8 bluebellref06_Check.bits8 (fun HT_ HW_ => ?_)
         generalize wr.drew = w24 at BK449 HB hx452_0 hx452_1 hx452_2 hHeld ⊢
         refine pureE (i := 1) (N := some 29) #[false, true, false, false, false, false, false, false] HT_.out ?_
         refine pureE (i := 3) (N := some 31) #[false, true, false, true, false, false, false, false] HT_.out ?_
         refine take_ (i := 0) (N := some 28) (v := ?_) (a' := ?_) #[true, true, false, true, false, false, false, false] rfl rfl (take_ofW HT_.out HW_.out (by kernel_rfl)) (fun _ _ _ h => h) (Or.inl ⟨by rfl, ?_⟩) hHeld ?_ ?_
         rotate_left
         ·rintro w' ⟨s0, s1, s2, s3, s4, s5, s6, s7, s8⟩
          go_simp
          with_reducible rfl
         rotate_left
         ·simp only [Act.put, List.setIfInBounds_toArray, List.set_cons_zero, List.set_cons_succ, i64_w, i32_w]
          rfl
         refine take_ (i := 2) (N := some 30) (v := ?_) (a' := ?_) #[true, true, true, true, false, false, false, false] rfl rfl (take_ofW HT_.out HW_.out (by kernel_rfl)) (fun _ _ _ h => h) (Or.inl ⟨by rfl, ?_⟩) hHeld ?_ ?_
         rotate_left
         ·rintro w' ⟨s0, s1, s2, s3, s4, s5, s6, s7, s8⟩
          go_simp
          with_reducible rfl
         rotate_left
         ·simp only [Act.put, List.setIfInBounds_toArray, List.set_cons_zero, List.set_cons_succ, i64_w, i32_w]
          rfl
         refine pureE (i := 4) (N := some 32) #[true, true, true, true, true, false, false, false] HT_.out ?_
         refine take_ (i := 5) (N := some 33) (v := ?_) (a' := ?_) #[true, true, true, true, true, true, false, false] rfl rfl (take_ofW HT_.out HW_.out (by kernel_rfl)) (fun _ _ _ h => h) (Or.inl ⟨by rfl, ?_⟩) hHeld ?_ ?_
         rotate_left
         ·rintro w' ⟨s0, s1, s2, s3, s4, s5, s6, s7, s8⟩
          go_simp
          with_reducible rfl
         rotate_left
         ·simp only [Act.put, List.setIfInBounds_toArray, List.set_cons_zero, List.set_cons_succ, i64_w, i32_w]
          rfl
         refine one_ (i := 6) (N := some 34) #[true, true, true, true, true, true, true, false] rfl rfl (one_of HT_.out (by kernel_rfl)) (by decide) (fun K hK => ?_)
         refine goes_ Try.func44 (by kernel_rfl) rfl #[.agg #[.string a0_0, .slice A0_1 l0_1.length c0_1, .slice (some ad452) l0_2.length c0_2, .slice A0_3 l0_3.length c0_3, .int .i64 a0_4, .int .i64 a0_5], .agg #[.int .i64 ((rd_T35 l0_2 x3_2).f0), .int .i64 ((rd_T35 l0_2 x3_2).f1), .int .i64 ((rd_T35 l0_2 x3_2).f2)]] (by rfl) rfl rfl mpE ?_
         with_reducible refine (bluebellref06_numbers.calls k2 a0_0 _ _ l0_1 _ _ l0_2 _ _ l0_3 a0_4 a0_5 ((rd_T35 l0_2 x3_2).f0) ((rd_T35 l0_2 x3_2).f1) ((rd_T35 l0_2 x3_2).f2) true _ ?side1 ?side2 ?side3 ?side4 ?side5 ?side6 A21.out).mono ?_
         (case side1 => exact kcb HR0_1.out)
         (case side2 => exact HC0_1.out)
         (case side3 => exact kcb HR0_2.out)
         (case side4 => exact HC0_2.out)
         (case side5 => exact kcb HR0_3.out)
         (case side6 => exact HC0_3.out)
         rintro e w25 ⟨rfl, hb⟩
         refine ⟨_, rfl, ?_⟩
         have n0_ := Aside0.mk (bkb (g := gb449) hb)
         have n1_ := Aside0.mk (bstep hb)
         clear BK449
         clear HB
         have BK449 := n0_
         have HB := n1_
         clear n0_ n1_
         (try clear hb)
         skip
         skip
         skip
         refine hK.out _ _ ⟨(blk_cell BK449.out 0).trans rfl, (blk_cell BK449.out 1).trans rfl, (blk_cell BK449.out 2).trans rfl, (blk_cell BK449.out 3).trans rfl, (blk_cell BK449.out 4).trans rfl, (blk_cell BK449.out 5).trans rfl, ((HB.out.cell (World.block_lt_of_cell? w _ hw452_0)).trans hw452_0), ((HB.out.cell (World.block_lt_of_cell? w _ hw452_1)).trans hw452_1), ((HB.out.cell (World.block_lt_of_cell? w _ hw452_2)).trans hw452_2)⟩ (fun hHeld => ?_)
         clear hK K
         refine norm_ (a' := ?_) ?_ ?_
         rotate_left
         ·show Act.put _ (some 34) _ = _
          simp only [Act.put, List.setIfInBounds_toArray, List.set_cons_zero, List.set_cons_succ, i64_w, i32_w]
          rfl
         refine pureE (i := 7) (N := some 35) #[true, true, true, true, true, true, true, true] HT_.out ?_
         refine done_ (done_of HT_.out (by kernel_rfl)) ?_
         try go_wp2
         go_roundg k2
         case measure => have := HJ6.out; have := HK2.out; omega
         case rel => exact ⟨(wrap64 (x3_2 + 1)), wrE, H', ⟨by have := HJ6.out; have := HK2.out; omega⟩, ⟨bk⟩, ⟨bw⟩⟩
        ·replace c22 := Bool.eq_false_iff.mpr c22
         subst c22
         have H1 : (some 60) = some r := by rw [if_neg (show ¬ (false = true) by decide)] at H; exact H
         clear H
         have H := H1
         clear H1
         obtain rfl := Option.some.inj H
         obtain ⟨z26_0, z26_1, z26_2, z26_3, z26_4, z26_5, y26_0, y26_1, y26_2, y26_3, y26_4, y26_5⟩ := cells6 BK449.out
         try go_wp2
         have n0_ := Aside0.mk (blk_drew BK449.out)
         have n1_ := Aside0.mk (below_drew1 HB.out)
         clear BK449
         clear HB
         have BK449 := n0_
         have HB := n1_
         clear n0_ n1_
         have p452 : 0 ≤ (x3_2 : Int) := ofd
         have q452 : x3_2 < (l0_2.length : Int) := ofd
         obtain ⟨ad452, e452, hx452_0, hx452_1, hx452_2⟩ := at_T35 HR0_2.out x3_2 p452 q452
         have hw452_2 := hx452_2
         have hw452_1 := hx452_1
         have hw452_0 := hx452_0
         cases e452
         replace hx452_0 := hxE HB.out hx452_0
         replace hx452_1 := hxE HB.out hx452_1
         replace hx452_2 := hxE HB.out hx452_2
         replace p452 := eq_true p452
         replace q452 := eq_true q452
         refine start_ (n := 8) (S := fun w' => w'.cell? ⟨gb449, 0, none⟩ = some (.string a0_0) ∧ w'.cell? ⟨gb449, 1, none⟩ = some (.slice A0_1 l0_1.length c0_1) ∧ w'.cell? ⟨gb449, 2, none⟩ = some (.slice (some ad452) l0_2.length c0_2) ∧ w'.cell? ⟨gb449, 3, none⟩ = some (.slice A0_3 l0_3.length c0_3) ∧ w'.cell? ⟨gb449, 4, none⟩ = some (.int .i64 a0_4) ∧ w'.cell? ⟨gb449, 5, none⟩ = some (.int .i64 a0_5) ∧ w'.cell? (ad452.add ((x3_2).toNat * 3)) = some (.int .i64 ((rd_T35 l0_2 x3_2).f0)) ∧ w'.cell? ⟨(ad452.add ((x3_2).toNat * 3)).block, (ad452.add ((x3_2).toNat * 3)).off + 1, none⟩ = some (.int .i64 ((rd_T35 l0_2 x3_2).f1)) ∧ w'.cell? ⟨(ad452.add ((x3_2).toNat * 3)).block, (ad452.add ((x3_2).toNat * 3)).off + 2, none⟩ = some (.int .i64 ((rd_T35 l0_2 x3_2).f2))) (ds := []) #[false, false, false, false, false, false, false, false] (by kernel_rfl) rfl rfl ⟨(blk_cell BK449.out 0).trans rfl, (blk_cell BK449.out 1).trans rfl, (blk_cell BK449.out 2).trans rfl, (blk_cell BK449.out 3).trans rfl, (blk_cell BK449.out 4).trans rfl, (blk_cell BK449.out 5).trans rfl, ((HB.out.cell (World.block_lt_of_cell? w _ hw452_0)).trans hw452_0), ((HB.out.cell (World.block_lt_of_cell? w _ hw452_1)).trans hw452_1), ((HB.out.cell (World.block_lt_of_cell? w _ hw452_2)).trans hw452_2)⟩ (fun hHeld => ?_); refine with_tabW bluebellref06_Check.tab8 bluebellref06_Check.bits8 (fun HT_ HW_ => ?_)
         generalize wr.drew = w27 at BK449 HB hx452_0 hx452_1 hx452_2 hHeld ⊢
         refine pureE (i := 1) (N := some 29) #[false, true, false, false, false, false, false, false] HT_.out ?_
         refine pureE (i := 3) (N := some 31) #[false, true, false, true, false, false, false, false] HT_.out ?_
         refine take_ (i := 0) (N := some 28) (v := ?_) (a' := ?_) #[true, true, false, true, false, false, false, false] rfl rfl (take_ofW HT_.out HW_.out (by kernel_rfl)) (fun _ _ _ h => h) (Or.inl ⟨by rfl, ?_⟩) hHeld ?_ ?_
         rotate_left
         ·rintro w' ⟨s0, s1, s2, s3, s4, s5, s6, s7, s8⟩
          go_simp
          with_reducible rfl
         rotate_left
         ·simp only [Act.put, List.setIfInBounds_toArray, List.set_cons_zero, List.set_cons_succ, i64_w, i32_w]
          rfl
         refine take_ (i := 2) (N := some 30) (v := ?_) (a' := ?_) #[true, true, true, true, false, false, false, false] rfl rfl (take_ofW HT_.out HW_.out (by kernel_rfl)) (fun _ _ _ h => h) (Or.inl ⟨by rfl, ?_⟩) hHeld ?_ ?_
         rotate_left
         ·rintro w' ⟨s0, s1, s2, s3, s4, s5, s6, s7, s8⟩
          go_simp
          with_reducible rfl
         rotate_left
         ·simp only [Act.put, List.setIfInBounds_toArray, List.set_cons_zero, List.set_cons_succ, i64_w, i32_w]
          rfl
         refine pureE (i := 4) (N := some 32) #[true, true, true, true, true, false, false, false] HT_.out ?_
         refine take_ (i := 5) (N := some 33) (v := ?_) (a' := ?_) #[true, true, true, true, true, true, false, false] rfl rfl (take_ofW HT_.out HW_.out (by kernel_rfl)) (fun _ _ _ h => h) (Or.inl ⟨by rfl, ?_⟩) hHeld ?_ ?_
         rotate_left
         ·rintro w' ⟨s0, s1, s2, s3, s4, s5, s6, s7, s8⟩
          go_simp
          with_reducible rfl
         rotate_left
         ·simp only [Act.put, List.setIfInBounds_toArray, List.set_cons_zero, List.set_cons_succ, i64_w, i32_w]
          rfl
         refine one_ (i := 6) (N := some 34) #[true, true, true, true, true, true, true, false] rfl rfl (one_of HT_.out (by kernel_rfl)) (by decide) (fun K hK => ?_)
         refine goes_ Try.func44 (by kernel_rfl) rfl #[.agg #[.string a0_0, .slice A0_1 l0_1.length c0_1, .slice (some ad452) l0_2.length c0_2, .slice A0_3 l0_3.length c0_3, .int .i64 a0_4, .int .i64 a0_5], .agg #[.int .i64 ((rd_T35 l0_2 x3_2).f0), .int .i64 ((rd_T35 l0_2 x3_2).f1), .int .i64 ((rd_T35 l0_2 x3_2).f2)]] (by rfl) rfl rfl mpE ?_
         with_reducible refine (bluebellref06_numbers.calls k2 a0_0 _ _ l0_1 _ _ l0_2 _ _ l0_3 a0_4 a0_5 ((rd_T35 l0_2 x3_2).f0) ((rd_T35 l0_2 x3_2).f1) ((rd_T35 l0_2 x3_2).f2) false _ ?side1 ?side2 ?side3 ?side4 ?side5 ?side6 A21.out).mono ?_
         (case side1 => exact kcb HR0_1.out)
         (case side2 => exact HC0_1.out)
         (case side3 => exact kcb HR0_2.out)
         (case side4 => exact HC0_2.out)
         (case side5 => exact kcb HR0_3.out)
         (case side6 => exact HC0_3.out)
         rintro e w28 ⟨rfl, hb⟩
         refine ⟨_, rfl, ?_⟩
         have n0_ := Aside0.mk (bkb (g := gb449) hb)
         have n1_ := Aside0.mk (bstep hb)
         clear BK449
         clear HB
         have BK449 := n0_
         have HB := n1_
         clear n0_ n1_
         (try clear hb)
         skip
         skip
         skip
         refine hK.out _ _ ⟨(blk_cell BK449.out 0).trans rfl, (blk_cell BK449.out 1).trans rfl, (blk_cell BK449.out 2).trans rfl, (blk_cell BK449.out 3).trans rfl, (blk_cell BK449.out 4).trans rfl, (blk_cell BK449.out 5).trans rfl, ((HB.out.cell (World.block_lt_of_cell? w _ hw452_0)).trans hw452_0), ((HB.out.cell (World.block_lt_of_cell? w _ hw452_1)).trans hw452_1), ((HB.out.cell (World.block_lt_of_cell? w _ hw452_2)).trans hw452_2)⟩ (fun hHeld => ?_)
         clear hK K
         refine norm_ (a' := ?_) ?_ ?_
         rotate_left
         ·show Act.put _ (some 34) _ = _
          simp only [Act.put, List.setIfInBounds_toArray, List.set_cons_zero, List.set_cons_succ, i64_w, i32_w]
          rfl
         refine pureE (i := 7) (N := some 35) #[true, true, true, true, true, true, true, true] HT_.out ?_
         refine done_ (done_of HT_.out (by kernel_rfl)) ?_
         try go_wp2
         go_ret
         exact ⟨erE, bw⟩
       ·rw [if_neg c19] at H
        have c19b0 : decide (x3_2 < (l0_2.length : Int)) = false := decide_eq_false c19
        clear c19
        replace H := Option.bind_eq_some_iff.mp H
        obtain ⟨t454, A290, H⟩ := H
        replace H : (if t454 = true then ((bluebellref06_placed.f k2 a0_0 l0_1 l0_2 l0_3 a0_4 a0_5).bind fun bt455 => (if bt455.2.2 = true then ((bluebellref06_deep.f k2 a0_0 l0_1 l0_2 l0_3 a0_4 a0_5 bt455.1 bt455.2.1).bind fun t463 => (if t463 = true then (some 0) else (some 61))) else (some 60))) else (some 60)) = some r := H
        have A29 := Aside0.mk A290
        clear A290
        by_cases c30 : t454 = true
        ·subst c30
         have H1 : ((bluebellref06_placed.f k2 a0_0 l0_1 l0_2 l0_3 a0_4 a0_5).bind fun bt455 => (if bt455.2.2 = true then ((bluebellref06_deep.f k2 a0_0 l0_1 l0_2 l0_3 a0_4 a0_5 bt455.1 bt455.2.1).bind fun t463 => (if t463 = true then (some 0) else (some 61))) else (some 60))) = some r := by rw [if_pos rfl] at H; exact H
         clear H
         have H := H1
         clear H1
         replace H := Option.bind_eq_some_iff.mp H
         obtain ⟨⟨t455, t458, t461⟩, A310, H⟩ := H
         replace H : (if t461 = true then ((bluebellref06_deep.f k2 a0_0 l0_1 l0_2 l0_3 a0_4 a0_5 t455 t458).bind fun t463 => (if t463 = true then (some 0) else (some 61))) else (some 60)) = some r := H
         have A31 := Aside0.mk A310
         clear A310
         by_cases c32 : t461 = true
         ·subst c32
          have H1 : ((bluebellref06_deep.f k2 a0_0 l0_1 l0_2 l0_3 a0_4 a0_5 t455 t458).bind fun t463 => (if t463 = true then (some 0) else (some 61))) = some r := by rw [if_pos rfl] at H; exact H
          clear H
          have H := H1
          clear H1
          replace H := Option.bind_eq_some_iff.mp H
          obtain ⟨t463, A330, H⟩ := H
          replace H : (if t463 = true then (some 0) else (some 61)) = some r := H
          have A33 := Aside0.mk A330
          clear A330
          by_cases c34 : t463 = true
          ·subst c34
           have H1 : (some 0) = some r := by rw [if_pos rfl] at H; exact H
           clear H
           have H := H1
           clear H1
           obtain rfl := Option.some.inj H
           obtain ⟨z35_0, z35_1, z35_2, z35_3, z35_4, z35_5, y35_0, y35_1, y35_2, y35_3, y35_4, y35_5⟩ := cells6 BK449.out
           go_wp2_with (first | ((with_reducible refine gate_callee (f := 45) rfl ?_); refine goesL_ (some 37) rfl rfl Try.func45 (by kernel_rfl) rfl #[.agg #[.string a0_0, .slice A0_1 l0_1.length c0_1, .slice A0_2 l0_2.length c0_2, .slice A0_3 l0_3.length c0_3, .int .i64 a0_4, .int .i64 a0_5]] rfl mpE ?_; (with_reducible refine (bluebellref06_order.calls k2 a0_0 _ _ l0_1 _ _ l0_2 _ _ l0_3 a0_4 a0_5 true _ ?side1 ?side2 ?side3 ?side4 ?side5 ?side6 A29.out).mono ?_); (case side1 => exact kcb HR0_1.out); (case side2 => exact HC0_1.out); (case side3 => exact kcb HR0_2.out); (case side4 => exact HC0_2.out); (case side5 => exact kcb HR0_3.out); (case side6 => exact HC0_3.out); rintro e w36 ⟨rfl, hb⟩; refine ⟨_, rfl, ?_⟩; replace BK449 := Aside0.mk (blk_below (g := gb449) (o := .cells #[.string a0_0, .slice A0_1 l0_1.length c0_1, .slice A0_2 l0_2.length c0_2, .slice A0_3 l0_3.length c0_3, .int .i64 a0_4, .int .i64 a0_5] 26 (0, 0)) bk hb); replace HB := Aside0.mk (bstep hb); (try clear hb); obtain ⟨z37_0, z37_1, z37_2, z37_3, z37_4, z37_5, y37_0, y37_1, y37_2, y37_3, y37_4, y37_5⟩ := cells6 BK449.out) | ((with_reducible refine gate_callee (f := 46) rfl ?_); refine goesL_ (some 41) rfl rfl Try.func46 (by kernel_rfl) rfl #[.agg #[.string a0_0, .slice A0_1 l0_1.length c0_1, .slice A0_2 l0_2.length c0_2, .slice A0_3 l0_3.length c0_3, .int .i64 a0_4, .int .i64 a0_5]] rfl mpE ?_; (with_reducible refine (bluebellref06_placed.calls k2 a0_0 _ _ l0_1 _ _ l0_2 _ _ l0_3 a0_4 a0_5 t455 t458 true _ ?side1 ?side2 ?side3 ?side4 ?side5 ?side6 A31.out).mono ?_); (case side1 => exact kcb HR0_1.out); (case side2 => exact HC0_1.out); (case side3 => exact kcb HR0_2.out); (case side4 => exact HC0_2.out); (case side5 => exact kcb HR0_3.out); (case side6 => exact HC0_3.out); rintro e w38 ⟨v456, v459, rfl, ho0, ho1, hb⟩; refine ⟨_, rfl, ?_⟩; have HO457 := Aside0.mk (Kd.R_lower ho0 bsz); have HO460 := Aside0.mk (Kd.R_lower ho1 bsz); replace BK449 := Aside0.mk (blk_below (g := gb449) (o := .cells #[.string a0_0, .slice A0_1 l0_1.length c0_1, .slice A0_2 l0_2.length c0_2, .slice A0_3 l0_3.length c0_3, .int .i64 a0_4, .int .i64 a0_5] 26 (0, 0)) bk hb); replace HB := Aside0.mk (bstep hb); (try clear hb); (try clear ho0); (try clear ho1)) | ((with_reducible refine gate_dst (N := 4) rfl ?_); refine boxev (N := 4) (cs := #[.slice none 0 0, .slice none 0 0]) (t := 60) ?_; intro gb462 hg w39 hbox hb; have BK462 := Aside0.mk (hbox); have GW462 := Aside0.mk ((by rw [hg]; exact bsz : w.heap.size ≤ gb462)); have GE462 := Aside0.mk ((by rw [hg]; exact bsz : w.heap.size ≤ gb462)); have NB449_462 := Aside0.mk ((by rw [hg]; exact Nat.ne_of_lt (blk_lt (g := gb449) (o := .cells #[.string a0_0, .slice A0_1 l0_1.length c0_1, .slice A0_2 l0_2.length c0_2, .slice A0_3 l0_3.length c0_3, .int .i64 a0_4, .int .i64 a0_5] 26 (0, 0)) bk) : gb449 ≠ gb462)); have NB462_449 := Aside0.mk ((by rw [hg]; exact Nat.ne_of_gt (blk_lt (g := gb449) (o := .cells #[.string a0_0, .slice A0_1 l0_1.length c0_1, .slice A0_2 l0_2.length c0_2, .slice A0_3 l0_3.length c0_3, .int .i64 a0_4, .int .i64 a0_5] 26 (0, 0)) bk) : gb462 ≠ gb449)); replace HO457 := Aside0.mk (Kd.R_below (by (with_reducible repeat (first | apply Kd.R_alloc | apply Kd.R_drewN | apply Kd.R_drew)); exact HO457.out) hb); replace HO460 := Aside0.mk (Kd.R_below (by (with_reducible repeat (first | apply Kd.R_alloc | apply Kd.R_drewN | apply Kd.R_drew)); exact HO460.out) hb); replace BK449 := Aside0.mk (blk_below (g := gb449) (o := .cells #[.string a0_0, .slice A0_1 l0_1.length c0_1, .slice A0_2 l0_2.length c0_2, .slice A0_3 l0_3.length c0_3, .int .i64 a0_4, .int .i64 a0_5] 26 (0, 0)) bk hb); replace HB := Aside0.mk (bstep hb); clear hb hbox hg; obtain ⟨Ao40, co40, eo40⟩ := Kd.R_slice HO457.out; subst eo40; have hnb41 := NB462_449.out; have hnc41 := NB449_462.out; obtain ⟨z42_0, z42_1, y42_0, y42_1⟩ := cells2 BK462.out; obtain ⟨Ao43, co43, eo43⟩ := Kd.R_slice HO460.out; subst eo43; obtain ⟨z44_0, z44_1, z44_2, z44_3, z44_4, z44_5, y44_0, y44_1, y44_2, y44_3, y44_4, y44_5⟩ := cells6 BK449.out) | ((with_reducible refine gate_callee (f := 47) rfl ?_); refine goesL_ (some 48) rfl rfl Try.func47 (by kernel_rfl) rfl #[.agg #[.string a0_0, .slice A0_1 l0_1.length c0_1, .slice A0_2 l0_2.length c0_2, .slice A0_3 l0_3.length c0_3, .int .i64 a0_4, .int .i64 a0_5], .agg #[.slice Ao40 t455.length co40, .slice Ao43 t458.length co43]] rfl mpE ?_; (with_reducible refine (bluebellref06_deep.calls k2 a0_0 _ _ l0_1 _ _ l0_2 _ _ l0_3 a0_4 a0_5 _ _ t455 _ _ t458 true _ ?side1 ?side2 ?side3 ?side4 ?side5 ?side6 ?side7 ?side8 ?side9 ?side10 A33.out).mono ?_); (case side1 => exact Kd.C_below HR0_1.out bw); (case side2 => exact HC0_1.out); (case side3 => exact Kd.C_below HR0_2.out bw); (case side4 => exact HC0_2.out); (case side5 => exact Kd.C_below HR0_3.out bw); (case side6 => exact HC0_3.out); (case side7 => refine (Kd.R_reads' (e := 3) (base := w.heap.size) (ok := fun k_ => some k_ ≠ (.slice Ao43 t458.length co43 : Value).ownBlock) (n := t455.length) (c := co40) ?_).2.2; exact (by (with_reducible repeat (first | apply Kd.R_alloc | apply Kd.R_drewN | apply Kd.R_drew)); exact (Kd.R_mono (Kd.R_far (p := ⟨gb462, 1, none⟩) (Kd.R_far (p := ⟨gb462, 0, none⟩) (Kd.R_types HO457.out BK462.out (by decide)) (fun _ hk => hk.2) (.slice Ao40 t455.length co40)) (fun _ hk => hk.2) (.slice Ao43 t458.length co43)) (fun _ h_ => h_.1)))); (case side8 => exact (Kd.R_reads' HO457.out).2.1); (case side9 => refine (Kd.R_reads' (e := 3) (base := w.heap.size) (ok := fun k_ => some k_ ≠ (.slice Ao40 t455.length co40 : Value).ownBlock) (n := t458.length) (c := co43) ?_).2.2; exact (by (with_reducible repeat (first | apply Kd.R_alloc | apply Kd.R_drewN | apply Kd.R_drew)); exact (Kd.R_mono (Kd.R_far (p := ⟨gb462, 1, none⟩) (Kd.R_far (p := ⟨gb462, 0, none⟩) (Kd.R_types HO460.out BK462.out (by decide)) (fun _ hk => hk.2) (.slice Ao40 t455.length co40)) (fun _ hk => hk.2) (.slice Ao43 t458.length co43)) (fun _ h_ => h_.1)))); (case side10 => exact (Kd.R_reads' HO460.out).2.1); rintro e w45 ⟨rfl, hb⟩; refine ⟨_, rfl, ?_⟩; replace HO457 := Aside0.mk (Kd.R_below (by (with_reducible repeat (first | apply Kd.R_alloc | apply Kd.R_drewN | apply Kd.R_drew)); exact (Kd.R_mono (Kd.R_far (p := ⟨gb462, 1, none⟩) (Kd.R_far (p := ⟨gb462, 0, none⟩) (Kd.R_types HO457.out BK462.out (by decide)) (fun _ hk => hk.2) (.slice Ao40 t455.length co40)) (fun _ hk => hk.2) (.slice Ao43 t458.length co43)) (fun _ h_ => h_.1))) hb); replace HO460 := Aside0.mk (Kd.R_below (by (with_reducible repeat (first | apply Kd.R_alloc | apply Kd.R_drewN | apply Kd.R_drew)); exact (Kd.R_mono (Kd.R_far (p := ⟨gb462, 1, none⟩) (Kd.R_far (p := ⟨gb462, 0, none⟩) (Kd.R_types HO460.out BK462.out (by decide)) (fun _ hk => hk.2) (.slice Ao40 t455.length co40)) (fun _ hk => hk.2) (.slice Ao43 t458.length co43)) (fun _ h_ => h_.1))) hb); replace BK449 := Aside0.mk (blk_below (g := gb449) (o := .cells #[.string a0_0, .slice A0_1 l0_1.length c0_1, .slice A0_2 l0_2.length c0_2, .slice A0_3 l0_3.length c0_3, .int .i64 a0_4, .int .i64 a0_5] 26 (0, 0)) (by (with_reducible repeat (first | refine blk_drewN ?_ _ | refine blk_drew ?_ | refine blk_alloc ?_ _)); refine blk_far ?_ NB449_462.out _; (with_reducible repeat (first | refine blk_drewN ?_ _ | refine blk_drew ?_ | refine blk_alloc ?_ _)); refine blk_far ?_ NB449_462.out _; (with_reducible repeat (first | refine blk_drewN ?_ _ | refine blk_drew ?_ | refine blk_alloc ?_ _)); exact BK449.out) hb); replace BK462 := Aside0.mk (blk_below (g := gb462) (o := .cells #[.slice Ao40 t455.length co40, .slice Ao43 t458.length co43] 60 (0, 0)) (by (with_reducible repeat (first | refine blk_drewN ?_ _ | refine blk_drew ?_ | refine blk_alloc ?_ _)); refine blk_put (cs := #[.slice Ao40 t455.length co40, .slice none 0 0]) ?_ 1 _ rfl; (with_reducible repeat (first | refine blk_drewN ?_ _ | refine blk_drew ?_ | refine blk_alloc ?_ _)); refine blk_put (cs := #[.slice none 0 0, .slice none 0 0]) ?_ 0 _ rfl; (with_reducible repeat (first | refine blk_drewN ?_ _ | refine blk_drew ?_ | refine blk_alloc ?_ _)); exact BK462.out) hb); replace HB := Aside0.mk (bstep hb); (try clear hb)))
           go_ret
           exact ⟨erE, bw⟩
          ·replace c34 := Bool.eq_false_iff.mpr c34
           subst c34
           have H1 : (some 61) = some r := by rw [if_neg (show ¬ (false = true) by decide)] at H; exact H
           clear H
           have H := H1
           clear H1
           obtain rfl := Option.some.inj H
           obtain ⟨z46_0, z46_1, z46_2, z46_3, z46_4, z46_5, y46_0, y46_1, y46_2, y46_3, y46_4, y46_5⟩ := cells6 BK449.out
           go_wp2_with (first | ((with_reducible refine gate_callee (f := 45) rfl ?_); refine goesL_ (some 37) rfl rfl Try.func45 (by kernel_rfl) rfl #[.agg #[.string a0_0, .slice A0_1 l0_1.length c0_1, .slice A0_2 l0_2.length c0_2, .slice A0_3 l0_3.length c0_3, .int .i64 a0_4, .int .i64 a0_5]] rfl mpE ?_; (with_reducible refine (bluebellref06_order.calls k2 a0_0 _ _ l0_1 _ _ l0_2 _ _ l0_3 a0_4 a0_5 true _ ?side1 ?side2 ?side3 ?side4 ?side5 ?side6 A29.out).mono ?_); (case side1 => exact kcb HR0_1.out); (case side2 => exact HC0_1.out); (case side3 => exact kcb HR0_2.out); (case side4 => exact HC0_2.out); (case side5 => exact kcb HR0_3.out); (case side6 => exact HC0_3.out); rintro e w47 ⟨rfl, hb⟩; refine ⟨_, rfl, ?_⟩; replace BK449 := Aside0.mk (blk_below (g := gb449) (o := .cells #[.string a0_0, .slice A0_1 l0_1.length c0_1, .slice A0_2 l0_2.length c0_2, .slice A0_3 l0_3.length c0_3, .int .i64 a0_4, .int .i64 a0_5] 26 (0, 0)) bk hb); replace HB := Aside0.mk (bstep hb); (try clear hb); obtain ⟨z48_0, z48_1, z48_2, z48_3, z48_4, z48_5, y48_0, y48_1, y48_2, y48_3, y48_4, y48_5⟩ := cells6 BK449.out) | ((with_reducible refine gate_callee (f := 46) rfl ?_); refine goesL_ (some 41) rfl rfl Try.func46 (by kernel_rfl) rfl #[.agg #[.string a0_0, .slice A0_1 l0_1.length c0_1, .slice A0_2 l0_2.length c0_2, .slice A0_3 l0_3.length c0_3, .int .i64 a0_4, .int .i64 a0_5]] rfl mpE ?_; (with_reducible refine (bluebellref06_placed.calls k2 a0_0 _ _ l0_1 _ _ l0_2 _ _ l0_3 a0_4 a0_5 t455 t458 true _ ?side1 ?side2 ?side3 ?side4 ?side5 ?side6 A31.out).mono ?_); (case side1 => exact kcb HR0_1.out); (case side2 => exact HC0_1.out); (case side3 => exact kcb HR0_2.out); (case side4 => exact HC0_2.out); (case side5 => exact kcb HR0_3.out); (case side6 => exact HC0_3.out); rintro e w49 ⟨v456, v459, rfl, ho0, ho1, hb⟩; refine ⟨_, rfl, ?_⟩; have HO457 := Aside0.mk (Kd.R_lower ho0 bsz); have HO460 := Aside0.mk (Kd.R_lower ho1 bsz); replace BK449 := Aside0.mk (blk_below (g := gb449) (o := .cells #[.string a0_0, .slice A0_1 l0_1.length c0_1, .slice A0_2 l0_2.length c0_2, .slice A0_3 l0_3.length c0_3, .int .i64 a0_4, .int .i64 a0_5] 26 (0, 0)) bk hb); replace HB := Aside0.mk (bstep hb); (try clear hb); (try clear ho0); (try clear ho1)) | ((with_reducible refine gate_dst (N := 4) rfl ?_); refine boxev (N := 4) (cs := #[.slice none 0 0, .slice none 0 0]) (t := 60) ?_; intro gb462 hg w50 hbox hb; have BK462 := Aside0.mk (hbox); have GW462 := Aside0.mk ((by rw [hg]; exact bsz : w.heap.size ≤ gb462)); have GE462 := Aside0.mk ((by rw [hg]; exact bsz : w.heap.size ≤ gb462)); have NB449_462 := Aside0.mk ((by rw [hg]; exact Nat.ne_of_lt (blk_lt (g := gb449) (o := .cells #[.string a0_0, .slice A0_1 l0_1.length c0_1, .slice A0_2 l0_2.length c0_2, .slice A0_3 l0_3.length c0_3, .int .i64 a0_4, .int .i64 a0_5] 26 (0, 0)) bk) : gb449 ≠ gb462)); have NB462_449 := Aside0.mk ((by rw [hg]; exact Nat.ne_of_gt (blk_lt (g := gb449) (o := .cells #[.string a0_0, .slice A0_1 l0_1.length c0_1, .slice A0_2 l0_2.length c0_2, .slice A0_3 l0_3.length c0_3, .int .i64 a0_4, .int .i64 a0_5] 26 (0, 0)) bk) : gb462 ≠ gb449)); replace HO457 := Aside0.mk (Kd.R_below (by (with_reducible repeat (first | apply Kd.R_alloc | apply Kd.R_drewN | apply Kd.R_drew)); exact HO457.out) hb); replace HO460 := Aside0.mk (Kd.R_below (by (with_reducible repeat (first | apply Kd.R_alloc | apply Kd.R_drewN | apply Kd.R_drew)); exact HO460.out) hb); replace BK449 := Aside0.mk (blk_below (g := gb449) (o := .cells #[.string a0_0, .slice A0_1 l0_1.length c0_1, .slice A0_2 l0_2.length c0_2, .slice A0_3 l0_3.length c0_3, .int .i64 a0_4, .int .i64 a0_5] 26 (0, 0)) bk hb); replace HB := Aside0.mk (bstep hb); clear hb hbox hg; obtain ⟨Ao51, co51, eo51⟩ := Kd.R_slice HO457.out; subst eo51; have hnb52 := NB462_449.out; have hnc52 := NB449_462.out; obtain ⟨z53_0, z53_1, y53_0, y53_1⟩ := cells2 BK462.out; obtain ⟨Ao54, co54, eo54⟩ := Kd.R_slice HO460.out; subst eo54; obtain ⟨z55_0, z55_1, z55_2, z55_3, z55_4, z55_5, y55_0, y55_1, y55_2, y55_3, y55_4, y55_5⟩ := cells6 BK449.out) | ((with_reducible refine gate_callee (f := 47) rfl ?_); refine goesL_ (some 48) rfl rfl Try.func47 (by kernel_rfl) rfl #[.agg #[.string a0_0, .slice A0_1 l0_1.length c0_1, .slice A0_2 l0_2.length c0_2, .slice A0_3 l0_3.length c0_3, .int .i64 a0_4, .int .i64 a0_5], .agg #[.slice Ao51 t455.length co51, .slice Ao54 t458.length co54]] rfl mpE ?_; (with_reducible refine (bluebellref06_deep.calls k2 a0_0 _ _ l0_1 _ _ l0_2 _ _ l0_3 a0_4 a0_5 _ _ t455 _ _ t458 false _ ?side1 ?side2 ?side3 ?side4 ?side5 ?side6 ?side7 ?side8 ?side9 ?side10 A33.out).mono ?_); (case side1 => exact Kd.C_below HR0_1.out bw); (case side2 => exact HC0_1.out); (case side3 => exact Kd.C_below HR0_2.out bw); (case side4 => exact HC0_2.out); (case side5 => exact Kd.C_below HR0_3.out bw); (case side6 => exact HC0_3.out); (case side7 => refine (Kd.R_reads' (e := 3) (base := w.heap.size) (ok := fun k_ => some k_ ≠ (.slice Ao54 t458.length co54 : Value).ownBlock) (n := t455.length) (c := co51) ?_).2.2; exact (by (with_reducible repeat (first | apply Kd.R_alloc | apply Kd.R_drewN | apply Kd.R_drew)); exact (Kd.R_mono (Kd.R_far (p := ⟨gb462, 1, none⟩) (Kd.R_far (p := ⟨gb462, 0, none⟩) (Kd.R_types HO457.out BK462.out (by decide)) (fun _ hk => hk.2) (.slice Ao51 t455.length co51)) (fun _ hk => hk.2) (.slice Ao54 t458.length co54)) (fun _ h_ => h_.1)))); (case side8 => exact (Kd.R_reads' HO457.out).2.1); (case side9 => refine (Kd.R_reads' (e := 3) (base := w.heap.size) (ok := fun k_ => some k_ ≠ (.slice Ao51 t455.length co51 : Value).ownBlock) (n := t458.length) (c := co54) ?_).2.2; exact (by (with_reducible repeat (first | apply Kd.R_alloc | apply Kd.R_drewN | apply Kd.R_drew)); exact (Kd.R_mono (Kd.R_far (p := ⟨gb462, 1, none⟩) (Kd.R_far (p := ⟨gb462, 0, none⟩) (Kd.R_types HO460.out BK462.out (by decide)) (fun _ hk => hk.2) (.slice Ao51 t455.length co51)) (fun _ hk => hk.2) (.slice Ao54 t458.length co54)) (fun _ h_ => h_.1)))); (case side10 => exact (Kd.R_reads' HO460.out).2.1); rintro e w56 ⟨rfl, hb⟩; refine ⟨_, rfl, ?_⟩; replace HO457 := Aside0.mk (Kd.R_below (by (with_reducible repeat (first | apply Kd.R_alloc | apply Kd.R_drewN | apply Kd.R_drew)); exact (Kd.R_mono (Kd.R_far (p := ⟨gb462, 1, none⟩) (Kd.R_far (p := ⟨gb462, 0, none⟩) (Kd.R_types HO457.out BK462.out (by decide)) (fun _ hk => hk.2) (.slice Ao51 t455.length co51)) (fun _ hk => hk.2) (.slice Ao54 t458.length co54)) (fun _ h_ => h_.1))) hb); replace HO460 := Aside0.mk (Kd.R_below (by (with_reducible repeat (first | apply Kd.R_alloc | apply Kd.R_drewN | apply Kd.R_drew)); exact (Kd.R_mono (Kd.R_far (p := ⟨gb462, 1, none⟩) (Kd.R_far (p := ⟨gb462, 0, none⟩) (Kd.R_types HO460.out BK462.out (by decide)) (fun _ hk => hk.2) (.slice Ao51 t455.length co51)) (fun _ hk => hk.2) (.slice Ao54 t458.length co54)) (fun _ h_ => h_.1))) hb); replace BK449 := Aside0.mk (blk_below (g := gb449) (o := .cells #[.string a0_0, .slice A0_1 l0_1.length c0_1, .slice A0_2 l0_2.length c0_2, .slice A0_3 l0_3.length c0_3, .int .i64 a0_4, .int .i64 a0_5] 26 (0, 0)) (by (with_reducible repeat (first | refine blk_drewN ?_ _ | refine blk_drew ?_ | refine blk_alloc ?_ _)); refine blk_far ?_ NB449_462.out _; (with_reducible repeat (first | refine blk_drewN ?_ _ | refine blk_drew ?_ | refine blk_alloc ?_ _)); refine blk_far ?_ NB449_462.out _; (with_reducible repeat (first | refine blk_drewN ?_ _ | refine blk_drew ?_ | refine blk_alloc ?_ _)); exact BK449.out) hb); replace BK462 := Aside0.mk (blk_below (g := gb462) (o := .cells #[.slice Ao51 t455.length co51, .slice Ao54 t458.length co54] 60 (0, 0)) (by (with_reducible repeat (first | refine blk_drewN ?_ _ | refine blk_drew ?_ | refine blk_alloc ?_ _)); refine blk_put (cs := #[.slice Ao51 t455.length co51, .slice none 0 0]) ?_ 1 _ rfl; (with_reducible repeat (first | refine blk_drewN ?_ _ | refine blk_drew ?_ | refine blk_alloc ?_ _)); refine blk_put (cs := #[.slice none 0 0, .slice none 0 0]) ?_ 0 _ rfl; (with_reducible repeat (first | refine blk_drewN ?_ _ | refine blk_drew ?_ | refine blk_alloc ?_ _)); exact BK462.out) hb); replace HB := Aside0.mk (bstep hb); (try clear hb)))
           go_ret
           exact ⟨erE, bw⟩
         ·replace c32 := Bool.eq_false_iff.mpr c32
          subst c32
          have H1 : (some 60) = some r := by rw [if_neg (show ¬ (false = true) by decide)] at H; exact H
          clear H
          have H := H1
          clear H1
          obtain rfl := Option.some.inj H
          obtain ⟨z57_0, z57_1, z57_2, z57_3, z57_4, z57_5, y57_0, y57_1, y57_2, y57_3, y57_4, y57_5⟩ := cells6 BK449.out
          go_wp2_with (first | ((with_reducible refine gate_callee (f := 45) rfl ?_); refine goesL_ (some 37) rfl rfl Try.func45 (by kernel_rfl) rfl #[.agg #[.string a0_0, .slice A0_1 l0_1.length c0_1, .slice A0_2 l0_2.length c0_2, .slice A0_3 l0_3.length c0_3, .int .i64 a0_4, .int .i64 a0_5]] rfl mpE ?_; (with_reducible refine (bluebellref06_order.calls k2 a0_0 _ _ l0_1 _ _ l0_2 _ _ l0_3 a0_4 a0_5 true _ ?side1 ?side2 ?side3 ?side4 ?side5 ?side6 A29.out).mono ?_); (case side1 => exact kcb HR0_1.out); (case side2 => exact HC0_1.out); (case side3 => exact kcb HR0_2.out); (case side4 => exact HC0_2.out); (case side5 => exact kcb HR0_3.out); (case side6 => exact HC0_3.out); rintro e w58 ⟨rfl, hb⟩; refine ⟨_, rfl, ?_⟩; replace BK449 := Aside0.mk (bkb (g := gb449) hb); replace HB := Aside0.mk (bstep hb); (try clear hb); obtain ⟨z59_0, z59_1, z59_2, z59_3, z59_4, z59_5, y59_0, y59_1, y59_2, y59_3, y59_4, y59_5⟩ := cells6 BK449.out) | ((with_reducible refine gate_callee (f := 46) rfl ?_); refine goesL_ (some 41) rfl rfl Try.func46 (by kernel_rfl) rfl #[.agg #[.string a0_0, .slice A0_1 l0_1.length c0_1, .slice A0_2 l0_2.length c0_2, .slice A0_3 l0_3.length c0_3, .int .i64 a0_4, .int .i64 a0_5]] rfl mpE ?_; (with_reducible refine (bluebellref06_placed.calls k2 a0_0 _ _ l0_1 _ _ l0_2 _ _ l0_3 a0_4 a0_5 t455 t458 false _ ?side1 ?side2 ?side3 ?side4 ?side5 ?side6 A31.out).mono ?_); (case side1 => exact kcb HR0_1.out); (case side2 => exact HC0_1.out); (case side3 => exact kcb HR0_2.out); (case side4 => exact HC0_2.out); (case side5 => exact kcb HR0_3.out); (case side6 => exact HC0_3.out); rintro e w60 ⟨v456, v459, rfl, ho0, ho1, hb⟩; refine ⟨_, rfl, ?_⟩; have HO457 := Aside0.mk (Kd.R_lower ho0 bsz); have HO460 := Aside0.mk (Kd.R_lower ho1 bsz); replace BK449 := Aside0.mk (bkb (g := gb449) hb); replace HB := Aside0.mk (bstep hb); (try clear hb); (try clear ho0); (try clear ho1)) | ((with_reducible refine gate_dst (N := 4) rfl ?_); refine boxev (N := 4) (cs := #[.slice none 0 0, .slice none 0 0]) (t := 60) ?_; intro gb462 hg w61 hbox hb; have BK462 := Aside0.mk (hbox); have GW462 := Aside0.mk ((by rw [hg]; exact bsz : w.heap.size ≤ gb462)); have GE462 := Aside0.mk ((by rw [hg]; exact bsz : w.heap.size ≤ gb462)); have NB449_462 := Aside0.mk ((by rw [hg]; exact Nat.ne_of_lt (bkl (g := gb449)) : gb449 ≠ gb462)); have NB462_449 := Aside0.mk ((by rw [hg]; exact Nat.ne_of_gt (bkl (g := gb449)) : gb462 ≠ gb449)); replace HO457 := Aside0.mk (Kd.R_below (by (with_reducible repeat (first | apply Kd.R_alloc | apply Kd.R_drewN | apply Kd.R_drew)); exact HO457.out) hb); replace HO460 := Aside0.mk (Kd.R_below (by (with_reducible repeat (first | apply Kd.R_alloc | apply Kd.R_drewN | apply Kd.R_drew)); exact HO460.out) hb); replace BK449 := Aside0.mk (bkb (g := gb449) hb); replace HB := Aside0.mk (bstep hb); clear hb hbox hg; obtain ⟨Ao62, co62, eo62⟩ := Kd.R_slice HO457.out; subst eo62; have hnb63 := NB462_449.out; have hnc63 := NB449_462.out; obtain ⟨z64_0, z64_1, y64_0, y64_1⟩ := cells2 BK462.out; obtain ⟨Ao65, co65, eo65⟩ := Kd.R_slice HO460.out; subst eo65))
          go_ret
          exact ⟨erE, bw⟩
        ·replace c30 := Bool.eq_false_iff.mpr c30
         subst c30
         have H1 : (some 60) = some r := by rw [if_neg (show ¬ (false = true) by decide)] at H; exact H
         clear H
         have H := H1
         clear H1
         obtain rfl := Option.some.inj H
         obtain ⟨z66_0, z66_1, z66_2, z66_3, z66_4, z66_5, y66_0, y66_1, y66_2, y66_3, y66_4, y66_5⟩ := cells6 BK449.out
         go_wp2_with (first | ((with_reducible refine gate_callee (f := 45) rfl ?_); refine goesL_ (some 37) rfl rfl Try.func45 (by kernel_rfl) rfl #[.agg #[.string a0_0, .slice A0_1 l0_1.length c0_1, .slice A0_2 l0_2.length c0_2, .slice A0_3 l0_3.length c0_3, .int .i64 a0_4, .int .i64 a0_5]] rfl mpE ?_; (with_reducible refine (bluebellref06_order.calls k2 a0_0 _ _ l0_1 _ _ l0_2 _ _ l0_3 a0_4 a0_5 false _ ?side1 ?side2 ?side3 ?side4 ?side5 ?side6 A29.out).mono ?_); (case side1 => exact kcb HR0_1.out); (case side2 => exact HC0_1.out); (case side3 => exact kcb HR0_2.out); (case side4 => exact HC0_2.out); (case side5 => exact kcb HR0_3.out); (case side6 => exact HC0_3.out); rintro e w67 ⟨rfl, hb⟩; refine ⟨_, rfl, ?_⟩; replace BK449 := Aside0.mk (bkb (g := gb449) hb); replace HB := Aside0.mk (bstep hb); (try clear hb)))
         go_ret
         exact ⟨erE, bw⟩



theorem eqA35 (d : Nat) (w : World) (x0 y0 : Int) (x1 y1 : Int) (x2 y2 : Int) :
    (Op.equalIn (d + 2) 35 (.agg #[.int .i64 x0, .int .i64 x1, .int .i64 x2]) (.agg #[.int .i64 y0, .int .i64 y1, .int .i64 y2])).run Try.prog w = .ok (x0 == y0 && (x1 == y1 && (x2 == y2))) w := by
  refine eqA_of Try.underlying35 (by kernel_rfl) ?_
  refine eqf_cons (by rfl) (by go_simp; rfl) (by go_simp; rfl) (by go_simp) ?_
  refine eqf_cons (by rfl) (by go_simp; rfl) (by go_simp; rfl) (by go_simp) ?_
  exact eqf_last (by rfl) (by go_simp; rfl) (by go_simp; rfl) (by go_simp)


attribute [local go_sem high] eqA35
/-! ### api_Op_50: function 50 -/
def api_Op_50.l0 : Nat → List (S35) → List (S35) → Int → Int → Option (Bool)
 | 0, _, _, _, _ => none
 | k + 1, x0, x1, x12, x13 => if x13 < x12 then (if 0 ≤ x13 then (if x13 < (x0.length : Int) then (if x13 < (x1.length : Int) then (if (!(((rd_T35 x0 x13).f0) == ((rd_T35 x1 x13).f0)) || (!(((rd_T35 x0 x13).f1) == ((rd_T35 x1 x13).f1)) || (!(((rd_T35 x0 x13).f2) == ((rd_T35 x1 x13).f2))))) = true then (some false) else (api_Op_50.l0 k x0 x1 x12 (wrap64 (x13 + 1)))) else (none)) else (none)) else (none)) else (some true)
def api_Op_50.f (k : Nat) (l0 : List (S35)) (l1 : List (S35)) : Option (Bool) := if (l0.length : Int) = (l1.length : Int) then (api_Op_50.l0 k l0 l1 (l0.length : Int) 0) else (some false)
theorem api_Op_50.mono_l : ∀ k, (∀ y0 y1 y2 y3, LeO (api_Op_50.l0 k y0 y1 y2 y3) (api_Op_50.l0 (k + 1) y0 y1 y2 y3))
 | 0 => fun _ _ _ _ r h => by simp [api_Op_50.l0] at h
 | k + 1 => by
  have ih0 := api_Op_50.mono_l k
  ·intro y0 y1 y2 y3
   unfold api_Op_50.l0
   repeat' first
   | (with_reducible exact ih0 _ _ _ _)
   | (with_reducible exact LeO.refl _)
   | (with_reducible exact LeO.none _)
   | (with_reducible refine LeO.ite ?_ ?_)
   | (with_reducible refine LeO.bind ?_ (fun _ => ?_))
   | exact ih0 _ _ _ _
   | exact LeO.none _
   | refine LeO.ite ?_ ?_
   | refine LeO.bind ?_ (fun _ => ?_)
theorem api_Op_50.mono : ∀ a0 a1 k, LeO (api_Op_50.f k a0 a1) (api_Op_50.f (k + 1) a0 a1) := by
 intro a0 a1 k
 have ih0 := api_Op_50.mono_l k
 unfold api_Op_50.f
 repeat' first
   | (with_reducible exact ih0 _ _ _ _)
   | (with_reducible exact LeO.refl _)
   | (with_reducible exact LeO.none _)
   | (with_reducible refine LeO.ite ?_ ?_)
   | (with_reducible refine LeO.bind ?_ (fun _ => ?_))
   | exact ih0 _ _ _ _
   | exact LeO.none _
   | refine LeO.ite ?_ ?_
   | refine LeO.bind ?_ (fun _ => ?_)
set_option maxHeartbeats 8000000 in
set_option maxRecDepth 100000 in
theorem api_Op_50.calls (k : Nat) (A0 : Option Addr) (c0 : Nat) (l0 : List (S35)) (A1 : Option Addr) (c1 : Nat) (l1 : List (S35)) (r : Bool) (w : World) (hr0 : Kd.C k35 w A0 l0.length l0) (hc0 : l0.length ≤ c0) (hr1 : Kd.C k35 w A1 l1.length l1) (hc1 : l1.length ≤ c1) (h : api_Op_50.f k l0 l1 = some r) :
  Calls Try.prog 50 #[.slice A0 l0.length c0, .slice A1 l1.length c1] w fun e w' => e = .returned (.bool r) ∧ Drawn0 w w' := by
 have hu35 := Try.underlying35
 have HR0 := Aside0.mk hr0
 have HC0 := Aside0.mk hc0
 clear hr0 hc0
 have HR1 := Aside0.mk hr1
 have HC1 := Aside0.mk hc1
 clear hr1 hc1
 have H : (if (l0.length : Int) = (l1.length : Int) then (api_Op_50.l0 k l0 l1 (l0.length : Int) 0) else (some false)) = some r := h
 clear h
 by_cases c3 : (l0.length : Int) = (l1.length : Int)
 ·rw [if_pos c3] at H
  have c3b0 : ((l0.length : Int) == (l1.length : Int)) = true := beq_iff_eq.mpr c3
  have c3b1 : ((l0.length : Int) != (l1.length : Int)) = false := bne_eq_false_iff_eq.mpr c3
  have c3b2 : (l0.length == l1.length) = true := by first | simpa using c3 | (simp at c3 ⊢; omega)
  clear c3
  have H' := Aside0.mk H
  clear H
  go_enter Try.func50, Try.ntmps50
  go_wp2
  repeat (go_quiet (fail); try go_wp2)
  go_loopg [13] k (fun kq v13 w' => ∃ (x13_1 : Int), v13 = .int .i64 x13_1 ∧ Aside0 (api_Op_50.l0 kq l0 l1 (l0.length : Int) x13_1 = some r) ∧ Aside0 (kq ≤ k) ∧ Drawn0 w w')
  case atStart => exact ⟨(0), wrE, H', ⟨Nat.le_refl _⟩, by repeat (first | exact Drawn0.refl _ | apply Drawn0.step)⟩
  case round =>
   clear H'
   clear c3b0 c3b1 c3b2
   obtain ⟨x13_1, rfl, HA, HK1, ⟨m1, rfl⟩⟩ := hrel
   cases gk with
   | zero => exact absurd HA.out (by simp [api_Op_50.l0])
   | succ k1 =>
    have H := HA.out
    clear HA
    simp only [api_Op_50.l0] at H
    by_cases c4 : x13_1 < (l0.length : Int)
    ·rw [if_pos c4] at H
     have c4b0 : decide (x13_1 < (l0.length : Int)) = true := decide_eq_true c4
     clear c4
     by_cases c5 : 0 ≤ x13_1
     rotate_left
     ·rw [if_neg c5] at H
      exact absurd H (by simp)
     rw [if_pos c5] at H
     have c5b0 : decide (0 ≤ x13_1) = true := decide_eq_true c5
     clear c5
     by_cases c6 : x13_1 < (l0.length : Int)
     rotate_left
     ·rw [if_neg c6] at H
      exact absurd H (by simp)
     rw [if_pos c6] at H
     have c6b0 : decide (x13_1 < (l0.length : Int)) = true := decide_eq_true c6
     clear c6
     by_cases c7 : x13_1 < (l1.length : Int)
     rotate_left
     ·rw [if_neg c7] at H
      exact absurd H (by simp)
     rw [if_pos c7] at H
     have c7b0 : decide (x13_1 < (l1.length : Int)) = true := decide_eq_true c7
     clear c7
     by_cases c8 : (!(((rd_T35 l0 x13_1).f0) == ((rd_T35 l1 x13_1).f0)) || (!(((rd_T35 l0 x13_1).f1) == ((rd_T35 l1 x13_1).f1)) || (!(((rd_T35 l0 x13_1).f2) == ((rd_T35 l1 x13_1).f2))))) = true
     ·rw [if_pos c8] at H
      have c8b0 : (!(((rd_T35 l0 x13_1).f0) == ((rd_T35 l1 x13_1).f0)) || (!(((rd_T35 l0 x13_1).f1) == ((rd_T35 l1 x13_1).f1)) || (!(((rd_T35 l0 x13_1).f2) == ((rd_T35 l1 x13_1).f2))))) = true := c8
      clear c8
      obtain rfl := Option.some.inj H
      have p464 : 0 ≤ (x13_1 : Int) := ofd
      have q464 : x13_1 < (l0.length : Int) := ofd
      obtain ⟨ad464, e464, hx464_0, hx464_1, hx464_2⟩ := at_T35 HR0.out x13_1 p464 q464
      cases e464
      replace p464 := eq_true p464
      replace q464 := eq_true q464
      have p465 : 0 ≤ (x13_1 : Int) := ofd
      have q465 : x13_1 < (l1.length : Int) := ofd
      obtain ⟨ad465, e465, hx465_0, hx465_1, hx465_2⟩ := at_T35 HR1.out x13_1 p465 q465
      cases e465
      replace p465 := eq_true p465
      replace q465 := eq_true q465
      go_wp2
      repeat (go_quiet (fail); try go_wp2)
      go_ret
      exact ⟨by first | rfl | (simp; done) | (simp [*]; done), by repeat (first | exact Drawn0.refl _ | apply Drawn0.step)⟩
     ·rw [if_neg c8] at H
      have c8b0 : (!(((rd_T35 l0 x13_1).f0) == ((rd_T35 l1 x13_1).f0)) || (!(((rd_T35 l0 x13_1).f1) == ((rd_T35 l1 x13_1).f1)) || (!(((rd_T35 l0 x13_1).f2) == ((rd_T35 l1 x13_1).f2))))) = false := by simpa using c8
      clear c8
      have H' := Aside0.mk H
      clear H
      have p464 : 0 ≤ (x13_1 : Int) := ofd
      have q464 : x13_1 < (l0.length : Int) := ofd
      obtain ⟨ad464, e464, hx464_0, hx464_1, hx464_2⟩ := at_T35 HR0.out x13_1 p464 q464
      cases e464
      replace p464 := eq_true p464
      replace q464 := eq_true q464
      have p465 : 0 ≤ (x13_1 : Int) := ofd
      have q465 : x13_1 < (l1.length : Int) := ofd
      obtain ⟨ad465, e465, hx465_0, hx465_1, hx465_2⟩ := at_T35 HR1.out x13_1 p465 q465
      cases e465
      replace p465 := eq_true p465
      replace q465 := eq_true q465
      go_wp2
      repeat (go_quiet (fail); try go_wp2)
      go_roundg k1
      case measure => have := HK1.out; omega
      case rel => exact ⟨(wrap64 (x13_1 + 1)), wrE, H', ⟨by have := HK1.out; omega⟩, by repeat (first | exact Drawn0.refl _ | apply Drawn0.step)⟩
    ·rw [if_neg c4] at H
     have c4b0 : decide (x13_1 < (l0.length : Int)) = false := decide_eq_false c4
     clear c4
     obtain rfl := Option.some.inj H
     go_wp2
     repeat (go_quiet (fail); try go_wp2)
     go_ret
     exact ⟨by first | rfl | (simp; done) | (simp [*]; done), by repeat (first | exact Drawn0.refl _ | apply Drawn0.step)⟩
 ·rw [if_neg c3] at H
  have c3b0 : ((l0.length : Int) == (l1.length : Int)) = false := beq_eq_false_iff_ne.mpr c3
  have c3b1 : ((l0.length : Int) != (l1.length : Int)) = true := bne_iff_ne.mpr c3
  have c3b2 : (l0.length == l1.length) = false := by first | simpa using c3 | (simp at c3 ⊢; omega)
  obtain rfl := Option.some.inj H
  go_enter Try.func50, Try.ntmps50
  go_wp2
  repeat (go_quiet (fail); try go_wp2)
  go_ret
  exact ⟨by first | rfl | (simp; done) | (simp [*]; done), by repeat (first | exact Drawn0.refl _ | apply Drawn0.step)⟩



theorem eqA68 (d : Nat) (w : World) (x0 y0 : Int) (x1 y1 : Int) :
    (Op.equalIn (d + 2) 68 (.agg #[.int .i64 x0, .int .i64 x1]) (.agg #[.int .i64 y0, .int .i64 y1])).run Try.prog w = .ok (x0 == y0 && (x1 == y1)) w := by
  refine eqA_of Try.underlying68 (by kernel_rfl) ?_
  refine eqf_cons (by rfl) (by go_simp; rfl) (by go_simp; rfl) (by go_simp) ?_
  exact eqf_last (by rfl) (by go_simp; rfl) (by go_simp; rfl) (by go_simp)


attribute [local go_sem high] eqA68
/-! ### api_Entry_51: function 51 -/
def api_Entry_51.l0 : Nat → List (S68) → List (S68) → Int → Int → Option (Bool)
 | 0, _, _, _, _ => none
 | k + 1, x0, x1, x12, x13 => if x13 < x12 then (if 0 ≤ x13 then (if x13 < (x0.length : Int) then (if x13 < (x1.length : Int) then (if (!(((rd_T68 x0 x13).f0) == ((rd_T68 x1 x13).f0)) || (!(((rd_T68 x0 x13).f1) == ((rd_T68 x1 x13).f1)))) = true then (some false) else (api_Entry_51.l0 k x0 x1 x12 (wrap64 (x13 + 1)))) else (none)) else (none)) else (none)) else (some true)
def api_Entry_51.f (k : Nat) (l0 : List (S68)) (l1 : List (S68)) : Option (Bool) := if (l0.length : Int) = (l1.length : Int) then (api_Entry_51.l0 k l0 l1 (l0.length : Int) 0) else (some false)
theorem api_Entry_51.mono_l : ∀ k, (∀ y0 y1 y2 y3, LeO (api_Entry_51.l0 k y0 y1 y2 y3) (api_Entry_51.l0 (k + 1) y0 y1 y2 y3))
 | 0 => fun _ _ _ _ r h => by simp [api_Entry_51.l0] at h
 | k + 1 => by
  have ih0 := api_Entry_51.mono_l k
  ·intro y0 y1 y2 y3
   unfold api_Entry_51.l0
   repeat' first
   | (with_reducible exact ih0 _ _ _ _)
   | (with_reducible exact LeO.refl _)
   | (with_reducible exact LeO.none _)
   | (with_reducible refine LeO.ite ?_ ?_)
   | (with_reducible refine LeO.bind ?_ (fun _ => ?_))
   | exact ih0 _ _ _ _
   | exact LeO.none _
   | refine LeO.ite ?_ ?_
   | refine LeO.bind ?_ (fun _ => ?_)
theorem api_Entry_51.mono : ∀ a0 a1 k, LeO (api_Entry_51.f k a0 a1) (api_Entry_51.f (k + 1) a0 a1) := by
 intro a0 a1 k
 have ih0 := api_Entry_51.mono_l k
 unfold api_Entry_51.f
 repeat' first
   | (with_reducible exact ih0 _ _ _ _)
   | (with_reducible exact LeO.refl _)
   | (with_reducible exact LeO.none _)
   | (with_reducible refine LeO.ite ?_ ?_)
   | (with_reducible refine LeO.bind ?_ (fun _ => ?_))
   | exact ih0 _ _ _ _
   | exact LeO.none _
   | refine LeO.ite ?_ ?_
   | refine LeO.bind ?_ (fun _ => ?_)
set_option maxHeartbeats 8000000 in
set_option maxRecDepth 100000 in
theorem api_Entry_51.calls (k : Nat) (A0 : Option Addr) (c0 : Nat) (l0 : List (S68)) (A1 : Option Addr) (c1 : Nat) (l1 : List (S68)) (r : Bool) (w : World) (hr0 : Kd.C k68 w A0 l0.length l0) (hc0 : l0.length ≤ c0) (hr1 : Kd.C k68 w A1 l1.length l1) (hc1 : l1.length ≤ c1) (h : api_Entry_51.f k l0 l1 = some r) :
  Calls Try.prog 51 #[.slice A0 l0.length c0, .slice A1 l1.length c1] w fun e w' => e = .returned (.bool r) ∧ Drawn0 w w' := by
 have hu68 := Try.underlying68
 have HR0 := Aside0.mk hr0
 have HC0 := Aside0.mk hc0
 clear hr0 hc0
 have HR1 := Aside0.mk hr1
 have HC1 := Aside0.mk hc1
 clear hr1 hc1
 have H : (if (l0.length : Int) = (l1.length : Int) then (api_Entry_51.l0 k l0 l1 (l0.length : Int) 0) else (some false)) = some r := h
 clear h
 by_cases c3 : (l0.length : Int) = (l1.length : Int)
 ·rw [if_pos c3] at H
  have c3b0 : ((l0.length : Int) == (l1.length : Int)) = true := beq_iff_eq.mpr c3
  have c3b1 : ((l0.length : Int) != (l1.length : Int)) = false := bne_eq_false_iff_eq.mpr c3
  have c3b2 : (l0.length == l1.length) = true := by first | simpa using c3 | (simp at c3 ⊢; omega)
  clear c3
  have H' := Aside0.mk H
  clear H
  go_enter Try.func51, Try.ntmps51
  go_wp2
  repeat (go_quiet (fail); try go_wp2)
  go_loopg [13] k (fun kq v13 w' => ∃ (x13_1 : Int), v13 = .int .i64 x13_1 ∧ Aside0 (api_Entry_51.l0 kq l0 l1 (l0.length : Int) x13_1 = some r) ∧ Aside0 (kq ≤ k) ∧ Drawn0 w w')
  case atStart => exact ⟨(0), wrE, H', ⟨Nat.le_refl _⟩, by repeat (first | exact Drawn0.refl _ | apply Drawn0.step)⟩
  case round =>
   clear H'
   clear c3b0 c3b1 c3b2
   obtain ⟨x13_1, rfl, HA, HK1, ⟨m1, rfl⟩⟩ := hrel
   cases gk with
   | zero => exact absurd HA.out (by simp [api_Entry_51.l0])
   | succ k1 =>
    have H := HA.out
    clear HA
    simp only [api_Entry_51.l0] at H
    by_cases c4 : x13_1 < (l0.length : Int)
    ·rw [if_pos c4] at H
     have c4b0 : decide (x13_1 < (l0.length : Int)) = true := decide_eq_true c4
     clear c4
     by_cases c5 : 0 ≤ x13_1
     rotate_left
     ·rw [if_neg c5] at H
      exact absurd H (by simp)
     rw [if_pos c5] at H
     have c5b0 : decide (0 ≤ x13_1) = true := decide_eq_true c5
     clear c5
     by_cases c6 : x13_1 < (l0.length : Int)
     rotate_left
     ·rw [if_neg c6] at H
      exact absurd H (by simp)
     rw [if_pos c6] at H
     have c6b0 : decide (x13_1 < (l0.length : Int)) = true := decide_eq_true c6
     clear c6
     by_cases c7 : x13_1 < (l1.length : Int)
     rotate_left
     ·rw [if_neg c7] at H
      exact absurd H (by simp)
     rw [if_pos c7] at H
     have c7b0 : decide (x13_1 < (l1.length : Int)) = true := decide_eq_true c7
     clear c7
     by_cases c8 : (!(((rd_T68 l0 x13_1).f0) == ((rd_T68 l1 x13_1).f0)) || (!(((rd_T68 l0 x13_1).f1) == ((rd_T68 l1 x13_1).f1)))) = true
     ·rw [if_pos c8] at H
      have c8b0 : (!(((rd_T68 l0 x13_1).f0) == ((rd_T68 l1 x13_1).f0)) || (!(((rd_T68 l0 x13_1).f1) == ((rd_T68 l1 x13_1).f1)))) = true := c8
      clear c8
      obtain rfl := Option.some.inj H
      have p466 : 0 ≤ (x13_1 : Int) := ofd
      have q466 : x13_1 < (l0.length : Int) := ofd
      obtain ⟨ad466, e466, hx466_0, hx466_1⟩ := at_T68 HR0.out x13_1 p466 q466
      cases e466
      replace p466 := eq_true p466
      replace q466 := eq_true q466
      have p467 : 0 ≤ (x13_1 : Int) := ofd
      have q467 : x13_1 < (l1.length : Int) := ofd
      obtain ⟨ad467, e467, hx467_0, hx467_1⟩ := at_T68 HR1.out x13_1 p467 q467
      cases e467
      replace p467 := eq_true p467
      replace q467 := eq_true q467
      go_wp2
      repeat (go_quiet (fail); try go_wp2)
      go_ret
      exact ⟨by first | rfl | (simp; done) | (simp [*]; done), by repeat (first | exact Drawn0.refl _ | apply Drawn0.step)⟩
     ·rw [if_neg c8] at H
      have c8b0 : (!(((rd_T68 l0 x13_1).f0) == ((rd_T68 l1 x13_1).f0)) || (!(((rd_T68 l0 x13_1).f1) == ((rd_T68 l1 x13_1).f1)))) = false := by simpa using c8
      clear c8
      have H' := Aside0.mk H
      clear H
      have p466 : 0 ≤ (x13_1 : Int) := ofd
      have q466 : x13_1 < (l0.length : Int) := ofd
      obtain ⟨ad466, e466, hx466_0, hx466_1⟩ := at_T68 HR0.out x13_1 p466 q466
      cases e466
      replace p466 := eq_true p466
      replace q466 := eq_true q466
      have p467 : 0 ≤ (x13_1 : Int) := ofd
      have q467 : x13_1 < (l1.length : Int) := ofd
      obtain ⟨ad467, e467, hx467_0, hx467_1⟩ := at_T68 HR1.out x13_1 p467 q467
      cases e467
      replace p467 := eq_true p467
      replace q467 := eq_true q467
      go_wp2
      repeat (go_quiet (fail); try go_wp2)
      go_roundg k1
      case measure => have := HK1.out; omega
      case rel => exact ⟨(wrap64 (x13_1 + 1)), wrE, H', ⟨by have := HK1.out; omega⟩, by repeat (first | exact Drawn0.refl _ | apply Drawn0.step)⟩
    ·rw [if_neg c4] at H
     have c4b0 : decide (x13_1 < (l0.length : Int)) = false := decide_eq_false c4
     clear c4
     obtain rfl := Option.some.inj H
     go_wp2
     repeat (go_quiet (fail); try go_wp2)
     go_ret
     exact ⟨by first | rfl | (simp; done) | (simp [*]; done), by repeat (first | exact Drawn0.refl _ | apply Drawn0.step)⟩
 ·rw [if_neg c3] at H
  have c3b0 : ((l0.length : Int) == (l1.length : Int)) = false := beq_eq_false_iff_ne.mpr c3
  have c3b1 : ((l0.length : Int) != (l1.length : Int)) = true := bne_iff_ne.mpr c3
  have c3b2 : (l0.length == l1.length) = false := by first | simpa using c3 | (simp at c3 ⊢; omega)
  obtain rfl := Option.some.inj H
  go_enter Try.func51, Try.ntmps51
  go_wp2
  repeat (go_quiet (fail); try go_wp2)
  go_ret
  exact ⟨by first | rfl | (simp; done) | (simp [*]; done), by repeat (first | exact Drawn0.refl _ | apply Drawn0.step)⟩


end Go.Proofs.Ytkmcanknbdaliaa.PO
