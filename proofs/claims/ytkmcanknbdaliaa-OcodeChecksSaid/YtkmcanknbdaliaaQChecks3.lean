/- Lemmas for the law, put together: contracts of the program's functions and what they answer, in plain words (part 3). -/
import Derived.Test.YtkmcanknbdaliaaQChecks1
import Derived.Test.YtkmcanknbdaliaaQChecks2
import Derived.Test.YtkmcanknbdaliaaQChecksShort
namespace Go.Proofs.Ytkmcanknbdaliaa.PO
open Go.RowKit Go.Proofs.YtkmcanknbdaliaaW.PrintWords Go.Proofs.YtkmcanknbdaliaaW.PrintLast Go.Proofs.YtkmcanknbdaliaaW.PrintMore
attribute [local go_sem] max2_int min2_int max_two min_two max_three min_three max_four min_four   -- for this text's walks alone
set_option linter.unusedVariables false
set_option linter.unusedSimpArgs false

/-! ### bluebellref06_placed: function 46 -/
mutual
def bluebellref06_placed.l0 : Nat → Int → ByteArray → List (S47) → List (S35) → List (S68) → Int → Int → List Int → List Int → Option (List Int × List Int × Bool)
 | 0, _, _, _, _, _, _, _, _, _ => none
 | k + 1, x5, p0, p1, p2, p3, p4, p5, q0, q1 => if x5 ≤ p5 then (if 0 ≤ x5 then (if x5 < (q0.length : Int) then (bluebellref06_placed.l0 k (wrap64 (x5 + 1)) p0 p1 p2 p3 p4 p5 (q0.set (x5 : Int).toNat (-1)) q1) else (none)) else (none)) else (bluebellref06_placed.l1 k 0 0 p0 p1 p2 p3 p4 p5 q0 q1)
def bluebellref06_placed.l1 : Nat → Int → Int → ByteArray → List (S47) → List (S35) → List (S68) → Int → Int → List Int → List Int → Option (List Int × List Int × Bool)
 | 0, _, _, _, _, _, _, _, _, _, _ => none
 | k + 1, x6, x7, p0, p1, p2, p3, p4, p5, q0, q1 => if x7 < (p2.length : Int) then (if 0 ≤ x7 then (if ((rd_T35 p2 x7).f0) = 24 then (bluebellref06_placed.j2 k (wrap64 (x6 + 1)) x7 p0 p1 p2 p3 p4 p5 q0 q1) else (bluebellref06_placed.j2 k x6 x7 p0 p1 p2 p3 p4 p5 q0 q1)) else (none)) else (bluebellref06_placed.l2 k 0 p0 p1 p2 p3 p4 p5 q0 q1)
def bluebellref06_placed.j2 : Nat → Int → Int → ByteArray → List (S47) → List (S35) → List (S68) → Int → Int → List Int → List Int → Option (List Int × List Int × Bool)
 | 0, _, _, _, _, _, _, _, _, _, _ => none
 | k + 1, x6, x7, p0, p1, p2, p3, p4, p5, q0, q1 => if 0 ≤ x7 then (if x7 < (q1.length : Int) then ((some (q1.set (x7 : Int).toNat x6 : List Int)).bind fun y418 => (if x7 < (p2.length : Int) then (if ((rd_T35 p2 x7).f0) = 19 then (if 0 ≤ ((rd_T35 p2 x7).f1) then (if ((rd_T35 p2 x7).f1) < (q0.length : Int) then (if (rd q0 ((rd_T35 p2 x7).f1)) ≥ 0 then (some (q0, y418, false)) else (bluebellref06_placed.l1 k x6 (wrap64 (x7 + 1)) p0 p1 p2 p3 p4 p5 (q0.set (((rd_T35 p2 x7).f1) : Int).toNat x7) y418)) else (none)) else (none)) else (bluebellref06_placed.l1 k x6 (wrap64 (x7 + 1)) p0 p1 p2 p3 p4 p5 q0 y418)) else (none))) else (none)) else (none)
def bluebellref06_placed.l2 : Nat → Int → ByteArray → List (S47) → List (S35) → List (S68) → Int → Int → List Int → List Int → Option (List Int × List Int × Bool)
 | 0, _, _, _, _, _, _, _, _, _ => none
 | k + 1, x8, p0, p1, p2, p3, p4, p5, q0, q1 => if x8 < (p2.length : Int) then (if 0 ≤ x8 then ((bluebellref06_Label.f k ((rd_T35 p2 x8).f0) ((rd_T35 p2 x8).f1) ((rd_T35 p2 x8).f2)).bind fun t425 => (if t425 > 0 then (if 0 ≤ t425 then (if t425 < (q0.length : Int) then (if (rd q0 t425) < 0 then (some (q0, q1, false)) else (if 0 ≤ (rd q0 t425) then (if (rd q0 t425) < (q1.length : Int) then (if x8 < (q1.length : Int) then (if (rd q1 (rd q0 t425)) = (rd q1 x8) then (bluebellref06_placed.l2 k (wrap64 (x8 + 1)) p0 p1 p2 p3 p4 p5 q0 q1) else (some (q0, q1, false))) else (none)) else (none)) else (none))) else (none)) else (none)) else (bluebellref06_placed.l2 k (wrap64 (x8 + 1)) p0 p1 p2 p3 p4 p5 q0 q1))) else (none)) else (some (q0, q1, true))
end
def bluebellref06_placed.f (k : Nat) (a0_0 : ByteArray) (l0_1 : List (S47)) (l0_2 : List (S35)) (l0_3 : List (S68)) (a0_4 : Int) (a0_5 : Int) : Option (List Int × List Int × Bool) := if 0 ≤ (wrap64 (a0_5 + 1)) then (if (wrap64 (a0_5 + 1) : Int).toNat ≤ 35184372088832 then (if 0 ≤ (l0_2.length : Int) then (if ((l0_2.length : Int) : Int).toNat ≤ 35184372088832 then (bluebellref06_placed.l0 k 0 a0_0 l0_1 l0_2 l0_3 a0_4 a0_5 (List.replicate (wrap64 (a0_5 + 1) : Int).toNat 0) (List.replicate ((l0_2.length : Int) : Int).toNat 0)) else (none)) else (none)) else (none)) else (none)
theorem bluebellref06_placed.mono_l : ∀ k, (∀ y0 y1 y2 y3 y4 y5 y6 y7 y8, LeO (bluebellref06_placed.l0 k y0 y1 y2 y3 y4 y5 y6 y7 y8) (bluebellref06_placed.l0 (k + 1) y0 y1 y2 y3 y4 y5 y6 y7 y8)) ∧ (∀ y0 y1 y2 y3 y4 y5 y6 y7 y8 y9, LeO (bluebellref06_placed.l1 k y0 y1 y2 y3 y4 y5 y6 y7 y8 y9) (bluebellref06_placed.l1 (k + 1) y0 y1 y2 y3 y4 y5 y6 y7 y8 y9)) ∧ (∀ y0 y1 y2 y3 y4 y5 y6 y7 y8 y9, LeO (bluebellref06_placed.j2 k y0 y1 y2 y3 y4 y5 y6 y7 y8 y9) (bluebellref06_placed.j2 (k + 1) y0 y1 y2 y3 y4 y5 y6 y7 y8 y9)) ∧ (∀ y0 y1 y2 y3 y4 y5 y6 y7 y8, LeO (bluebellref06_placed.l2 k y0 y1 y2 y3 y4 y5 y6 y7 y8) (bluebellref06_placed.l2 (k + 1) y0 y1 y2 y3 y4 y5 y6 y7 y8))
 | 0 => ⟨fun _ _ _ _ _ _ _ _ _ r h => by simp [bluebellref06_placed.l0] at h, fun _ _ _ _ _ _ _ _ _ _ r h => by simp [bluebellref06_placed.l1] at h, fun _ _ _ _ _ _ _ _ _ _ r h => by simp [bluebellref06_placed.j2] at h, fun _ _ _ _ _ _ _ _ _ r h => by simp [bluebellref06_placed.l2] at h⟩
 | k + 1 => by
  obtain ⟨ih0, ih1, ih2, ih3⟩ := bluebellref06_placed.mono_l k
  refine ⟨?_, ?_, ?_, ?_⟩
  ·intro y0 y1 y2 y3 y4 y5 y6 y7 y8
   unfold bluebellref06_placed.l0
   repeat' first
   | (with_reducible exact ih0 _ _ _ _ _ _ _ _ _)
   | (with_reducible exact ih1 _ _ _ _ _ _ _ _ _ _)
   | (with_reducible exact ih2 _ _ _ _ _ _ _ _ _ _)
   | (with_reducible exact ih3 _ _ _ _ _ _ _ _ _)
   | (with_reducible exact bluebellref06_Label.mono _ _ _ _)
   | (with_reducible exact LeO.refl _)
   | (with_reducible exact LeO.none _)
   | (with_reducible refine LeO.ite ?_ ?_)
   | (with_reducible refine LeO.bind ?_ (fun _ => ?_))
   | exact ih0 _ _ _ _ _ _ _ _ _
   | exact ih1 _ _ _ _ _ _ _ _ _ _
   | exact ih2 _ _ _ _ _ _ _ _ _ _
   | exact ih3 _ _ _ _ _ _ _ _ _
   | exact bluebellref06_Label.mono _ _ _ _
   | exact LeO.none _
   | refine LeO.ite ?_ ?_
   | refine LeO.bind ?_ (fun _ => ?_)
  ·intro y0 y1 y2 y3 y4 y5 y6 y7 y8 y9
   unfold bluebellref06_placed.l1
   repeat' first
   | (with_reducible exact ih0 _ _ _ _ _ _ _ _ _)
   | (with_reducible exact ih1 _ _ _ _ _ _ _ _ _ _)
   | (with_reducible exact ih2 _ _ _ _ _ _ _ _ _ _)
   | (with_reducible exact ih3 _ _ _ _ _ _ _ _ _)
   | (with_reducible exact bluebellref06_Label.mono _ _ _ _)
   | (with_reducible exact LeO.refl _)
   | (with_reducible exact LeO.none _)
   | (with_reducible refine LeO.ite ?_ ?_)
   | (with_reducible refine LeO.bind ?_ (fun _ => ?_))
   | exact ih0 _ _ _ _ _ _ _ _ _
   | exact ih1 _ _ _ _ _ _ _ _ _ _
   | exact ih2 _ _ _ _ _ _ _ _ _ _
   | exact ih3 _ _ _ _ _ _ _ _ _
   | exact bluebellref06_Label.mono _ _ _ _
   | exact LeO.none _
   | refine LeO.ite ?_ ?_
   | refine LeO.bind ?_ (fun _ => ?_)
  ·intro y0 y1 y2 y3 y4 y5 y6 y7 y8 y9
   unfold bluebellref06_placed.j2
   repeat' first
   | (with_reducible exact ih0 _ _ _ _ _ _ _ _ _)
   | (with_reducible exact ih1 _ _ _ _ _ _ _ _ _ _)
   | (with_reducible exact ih2 _ _ _ _ _ _ _ _ _ _)
   | (with_reducible exact ih3 _ _ _ _ _ _ _ _ _)
   | (with_reducible exact bluebellref06_Label.mono _ _ _ _)
   | (with_reducible exact LeO.refl _)
   | (with_reducible exact LeO.none _)
   | (with_reducible refine LeO.ite ?_ ?_)
   | (with_reducible refine LeO.bind ?_ (fun _ => ?_))
   | exact ih0 _ _ _ _ _ _ _ _ _
   | exact ih1 _ _ _ _ _ _ _ _ _ _
   | exact ih2 _ _ _ _ _ _ _ _ _ _
   | exact ih3 _ _ _ _ _ _ _ _ _
   | exact bluebellref06_Label.mono _ _ _ _
   | exact LeO.none _
   | refine LeO.ite ?_ ?_
   | refine LeO.bind ?_ (fun _ => ?_)
  ·intro y0 y1 y2 y3 y4 y5 y6 y7 y8
   unfold bluebellref06_placed.l2
   repeat' first
   | (with_reducible exact ih0 _ _ _ _ _ _ _ _ _)
   | (with_reducible exact ih1 _ _ _ _ _ _ _ _ _ _)
   | (with_reducible exact ih2 _ _ _ _ _ _ _ _ _ _)
   | (with_reducible exact ih3 _ _ _ _ _ _ _ _ _)
   | (with_reducible exact bluebellref06_Label.mono _ _ _ _)
   | (with_reducible exact LeO.refl _)
   | (with_reducible exact LeO.none _)
   | (with_reducible refine LeO.ite ?_ ?_)
   | (with_reducible refine LeO.bind ?_ (fun _ => ?_))
   | exact ih0 _ _ _ _ _ _ _ _ _
   | exact ih1 _ _ _ _ _ _ _ _ _ _
   | exact ih2 _ _ _ _ _ _ _ _ _ _
   | exact ih3 _ _ _ _ _ _ _ _ _
   | exact bluebellref06_Label.mono _ _ _ _
   | exact LeO.none _
   | refine LeO.ite ?_ ?_
   | refine LeO.bind ?_ (fun _ => ?_)
theorem bluebellref06_placed.mono : ∀ a0 a1 a2 a3 a4 a5 k, LeO (bluebellref06_placed.f k a0 a1 a2 a3 a4 a5) (bluebellref06_placed.f (k + 1) a0 a1 a2 a3 a4 a5) := by
 intro a0 a1 a2 a3 a4 a5 k
 obtain ⟨ih0, ih1, ih2, ih3⟩ := bluebellref06_placed.mono_l k
 unfold bluebellref06_placed.f
 repeat' first
   | (with_reducible exact ih0 _ _ _ _ _ _ _ _ _)
   | (with_reducible exact ih1 _ _ _ _ _ _ _ _ _ _)
   | (with_reducible exact ih2 _ _ _ _ _ _ _ _ _ _)
   | (with_reducible exact ih3 _ _ _ _ _ _ _ _ _)
   | (with_reducible exact bluebellref06_Label.mono _ _ _ _)
   | (with_reducible exact LeO.refl _)
   | (with_reducible exact LeO.none _)
   | (with_reducible refine LeO.ite ?_ ?_)
   | (with_reducible refine LeO.bind ?_ (fun _ => ?_))
   | exact ih0 _ _ _ _ _ _ _ _ _
   | exact ih1 _ _ _ _ _ _ _ _ _ _
   | exact ih2 _ _ _ _ _ _ _ _ _ _
   | exact ih3 _ _ _ _ _ _ _ _ _
   | exact bluebellref06_Label.mono _ _ _ _
   | exact LeO.none _
   | refine LeO.ite ?_ ?_
   | refine LeO.bind ?_ (fun _ => ?_)
def bluebellref06_placed.T1 : Bool × List (List Nat × List Nat) := (true, [([], []), ([0], [0]), ([1], [1]), ([2, 2], [2]), ([], []), ([4], [4]), ([5], [5]), ([6, 6], [6]), ([3, 7], [3, 7]), ([], []), ([9, 8, 0, 1, 2, 3, 4, 5, 6, 7, 8, 9], [8, 9])])
def bluebellref06_placed.B1 : List Nat := [0, 1, 3, 7, 0, 16, 48, 112, 255, 0, 1023]
theorem bluebellref06_placed.tab1 : rtab .any (opsOf Try.f46 1) = bluebellref06_placed.T1 := by kernel_rfl
theorem bluebellref06_placed.bits1 : waitsOk bluebellref06_placed.T1.2 bluebellref06_placed.B1 = true := by kernel_rfl
def bluebellref06_placed.T14 : Bool × List (List Nat × List Nat) := (true, [([], []), ([0], [0]), ([], []), ([2], [2]), ([], []), ([3, 4], [3, 4]), ([5], [5]), ([6], [6]), ([1, 7], [1, 7]), ([8], [8]), ([9], [9])])
def bluebellref06_placed.B14 : List Nat := [0, 1, 0, 4, 0, 28, 60, 124, 255, 511, 1023]
theorem bluebellref06_placed.tab14 : rtab .any (opsOf Try.f46 14) = bluebellref06_placed.T14 := by kernel_rfl
theorem bluebellref06_placed.bits14 : waitsOk bluebellref06_placed.T14.2 bluebellref06_placed.B14 = true := by kernel_rfl
def bluebellref06_placed.T16 : Bool × List (List Nat × List Nat) := (true, [([], []), ([0], [0]), ([], []), ([2], [2]), ([], []), ([3, 4], [3, 4]), ([5], [5]), ([6], [6]), ([], []), ([1, 7, 0, 1, 2, 3, 4, 5, 6, 7, 8], [1, 7]), ([9, 8, 0, 1, 2, 3, 4, 5, 6, 7, 8], [8, 9])])
def bluebellref06_placed.B16 : List Nat := [0, 1, 0, 4, 0, 28, 60, 124, 0, 511, 1023]
theorem bluebellref06_placed.tab16 : rtab .any (opsOf Try.f46 16) = bluebellref06_placed.T16 := by kernel_rfl
theorem bluebellref06_placed.bits16 : waitsOk bluebellref06_placed.T16.2 bluebellref06_placed.B16 = true := by kernel_rfl
def bluebellref06_placed.T21 : Bool × List (List Nat × List Nat) := (true, [([], []), ([0], [0]), ([1], [1]), ([2], [2]), ([3, 2], [2, 3]), ([2], [2]), ([4, 5, 2], [2, 4, 5]), ([6, 2], [2, 6]), ([7, 2], [2, 7]), ([8, 2, 2], [2, 8]), ([9], [9]), ([10, 9], [9, 10]), ([9], [9]), ([12, 9], [9, 12]), ([9], [9]), ([13, 14, 9], [9, 13, 14]), ([15, 9], [9, 15]), ([11, 16, 9], [9, 11, 16]), ([17, 9], [9, 17]), ([9], [9]), ([19, 9], [9, 19]), ([9], [9]), ([20, 21, 9], [9, 20, 21]), ([22, 9], [9, 22]), ([18, 23, 9], [9, 18, 23]), ([9, 24, 2], [2, 9, 24]), ([2, 25], [2, 25])])
def bluebellref06_placed.B21 : List Nat := [0, 1, 3, 7, 15, 7, 63, 127, 255, 511, 1023, 2047, 1023, 5119, 1023, 29695, 62463, 131071, 262143, 1023, 525311, 1023, 3671039, 7865343, 16777215, 33554431, 67108863]
theorem bluebellref06_placed.tab21 : rtab .any (opsOf Try.f46 21) = bluebellref06_placed.T21 := by kernel_rfl
theorem bluebellref06_placed.bits21 : waitsOk bluebellref06_placed.T21.2 bluebellref06_placed.B21 = true := by kernel_rfl
set_option maxHeartbeats 8000000 in
set_option maxRecDepth 100000 in
theorem bluebellref06_placed.calls (k : Nat) (a0_0 : ByteArray) (A0_1 : Option Addr) (c0_1 : Nat) (l0_1 : List (S47)) (A0_2 : Option Addr) (c0_2 : Nat) (l0_2 : List (S35)) (A0_3 : Option Addr) (c0_3 : Nat) (l0_3 : List (S68)) (a0_4 : Int) (a0_5 : Int) (r1 : List Int) (r2 : List Int) (r3 : Bool) (w : World) (hr0_1 : Kd.C k47 w A0_1 l0_1.length l0_1) (hc0_1 : l0_1.length ≤ c0_1) (hr0_2 : Kd.C k35 w A0_2 l0_2.length l0_2) (hc0_2 : l0_2.length ≤ c0_2) (hr0_3 : Kd.C k68 w A0_3 l0_3.length l0_3) (hc0_3 : l0_3.length ≤ c0_3) (h : bluebellref06_placed.f k a0_0 l0_1 l0_2 l0_3 a0_4 a0_5 = some (r1, r2, r3)) :
  Calls Try.prog 46 #[.agg #[.string a0_0, .slice A0_1 l0_1.length c0_1, .slice A0_2 l0_2.length c0_2, .slice A0_3 l0_3.length c0_3, .int .i64 a0_4, .int .i64 a0_5]] w fun e w' => ∃ v0_ v1_ : Value, e = .returned (.tuple #[.agg #[v0_, v1_], .bool r3]) ∧ Kd.R (Kd.int .i64) 3 w' w.heap.size (fun k_ => some k_ ≠ (v1_ : Value).ownBlock) v0_ r1 ∧ Kd.R (Kd.int .i64) 3 w' w.heap.size (fun k_ => some k_ ≠ (v0_ : Value).ownBlock) v1_ r2 ∧ Below w.heap.size w w' := by
 have hu26 := Try.underlying26
 have hu60 := Try.underlying60
 have hu35 := Try.underlying35
 have HR0_1 := Aside0.mk hr0_1
 have HC0_1 := Aside0.mk hc0_1
 clear hr0_1 hc0_1
 have HR0_2 := Aside0.mk hr0_2
 have HC0_2 := Aside0.mk hc0_2
 clear hr0_2 hc0_2
 have HR0_3 := Aside0.mk hr0_3
 have HC0_3 := Aside0.mk hc0_3
 clear hr0_3 hc0_3
 have HB := Aside0.mk (Below.refl w.heap.size w)
 have H : (if 0 ≤ (wrap64 (a0_5 + 1)) then (if (wrap64 (a0_5 + 1) : Int).toNat ≤ 35184372088832 then (if 0 ≤ (l0_2.length : Int) then (if ((l0_2.length : Int) : Int).toNat ≤ 35184372088832 then (bluebellref06_placed.l0 k 0 a0_0 l0_1 l0_2 l0_3 a0_4 a0_5 (List.replicate (wrap64 (a0_5 + 1) : Int).toNat 0) (List.replicate ((l0_2.length : Int) : Int).toNat 0)) else (none)) else (none)) else (none)) else (none)) = some (r1, r2, r3) := h
 clear h
 obtain ⟨ji2, hji2⟩ : ∃ j_ : Int, (wrap64 (a0_5 + 1)) = j_ := ⟨_, rfl⟩
 replace H : (if 0 ≤ (ji2) then (if (ji2 : Int).toNat ≤ 35184372088832 then (if 0 ≤ (l0_2.length : Int) then (if ((l0_2.length : Int) : Int).toNat ≤ 35184372088832 then (bluebellref06_placed.l0 k 0 a0_0 l0_1 l0_2 l0_3 a0_4 a0_5 (List.replicate (ji2 : Int).toNat 0) (List.replicate ((l0_2.length : Int) : Int).toNat 0)) else (none)) else (none)) else (none)) else (none)) = some (r1, r2, r3) := by first | (rw [hji2] at H; exact H) | (simp only [hji2] at H ⊢; exact H)
 have hji2w : (IntKind.i64.wrap (a0_5 + 1)) = ji2 := (i64_w _).trans hji2
 by_cases c3 : 0 ≤ (ji2)
 ·rw [if_pos c3] at H
  have c3b0 := eq_true c3
  have c3b1 : decide (0 ≤ (ji2)) = true := decide_eq_true c3
  clear c3
  by_cases c4 : (ji2 : Int).toNat ≤ 35184372088832
  rotate_left
  ·rw [if_neg c4] at H
   exact absurd H (by simp)
  rw [if_pos c4] at H
  have c4b0 := eq_true c4
  have c4b1 : decide ((ji2 : Int).toNat ≤ 35184372088832) = true := decide_eq_true c4
  clear c4
  obtain ⟨y409, hy409⟩ : ∃ y_ : List Int, y_ = (List.replicate (ji2 : Int).toNat 0) := ⟨_, rfl⟩
  replace H : (if 0 ≤ (l0_2.length : Int) then (if ((l0_2.length : Int) : Int).toNat ≤ 35184372088832 then (bluebellref06_placed.l0 k 0 a0_0 l0_1 l0_2 l0_3 a0_4 a0_5 y409 (List.replicate ((l0_2.length : Int) : Int).toNat 0)) else (none)) else (none)) = some (r1, r2, r3) := by first | (rw [hy409]; with_reducible exact H) | (have H2_ := (Option.bind_some _ _).symm.trans H; rw [hy409]; with_reducible exact H2_) | (have H2_ := (Option.bind_some _ _).symm.trans H; with_reducible exact H2_) | with_reducible exact H | (rw [hy409]; exact H) | exact H
  have Ny409 := Aside0.mk hy409
  clear hy409
  by_cases c5 : 0 ≤ (l0_2.length : Int)
  rotate_left
  ·rw [if_neg c5] at H
   exact absurd H (by simp)
  rw [if_pos c5] at H
  have c5b0 := eq_true c5
  have c5b1 : decide (0 ≤ (l0_2.length : Int)) = true := decide_eq_true c5
  clear c5
  by_cases c6 : ((l0_2.length : Int) : Int).toNat ≤ 35184372088832
  rotate_left
  ·rw [if_neg c6] at H
   exact absurd H (by simp)
  rw [if_pos c6] at H
  have c6b0 := eq_true c6
  have c6b1 : decide (((l0_2.length : Int) : Int).toNat ≤ 35184372088832) = true := decide_eq_true c6
  clear c6
  obtain ⟨y412, hy412⟩ : ∃ y_ : List Int, y_ = (List.replicate ((l0_2.length : Int) : Int).toNat 0) := ⟨_, rfl⟩
  replace H : (bluebellref06_placed.l0 k 0 a0_0 l0_1 l0_2 l0_3 a0_4 a0_5 y409 y412) = some (r1, r2, r3) := by first | (rw [hy412]; with_reducible exact H) | (have H2_ := (Option.bind_some _ _).symm.trans H; rw [hy412]; with_reducible exact H2_) | (have H2_ := (Option.bind_some _ _).symm.trans H; with_reducible exact H2_) | with_reducible exact H | (rw [hy412]; exact H) | exact H
  have Ny412 := Aside0.mk hy412
  clear hy412
  have H' := Aside0.mk H
  clear H
  go_enter Try.func46, Try.ntmps46
  try go_wp2_with (first | ((with_reducible refine gate_dst (N := 1) rfl ?_); refine boxev (N := 1) (cs := #[.string a0_0, .slice A0_1 l0_1.length c0_1, .slice A0_2 l0_2.length c0_2, .slice A0_3 l0_3.length c0_3, .int .i64 a0_4, .int .i64 a0_5]) (t := 26) ?_; intro gb407 hg w7 hbox hb; have n0_ := Aside0.mk (bstep hb); have n1_ := Aside0.mk (hbox); have n2_ := Aside0.mk ((by rw [hg]; exact bsz : w.heap.size ≤ gb407)); have n3_ := Aside0.mk ((by rw [hg]; exact bsz : w.heap.size ≤ gb407)); clear HB; have HB := n0_; have BK407 := n1_; have GW407 := n2_; have GE407 := n3_; clear n0_ n1_ n2_ n3_; clear hb hbox hg) | ((with_reducible refine gate_dst (N := 2) rfl ?_); refine boxev (N := 2) (cs := #[.slice none 0 0, .slice none 0 0]) (t := 60) ?_; intro gb408 hg w8 hbox hb; have n0_ := Aside0.mk (bkb (g := gb407) hb); have n1_ := Aside0.mk (bstep hb); have n2_ := Aside0.mk (hbox); have n3_ := Aside0.mk ((by rw [hg]; exact bsz : w.heap.size ≤ gb408)); have n4_ := Aside0.mk ((by rw [hg]; exact bsz : w.heap.size ≤ gb408)); have n5_ := Aside0.mk ((by rw [hg]; exact Nat.ne_of_lt (bkl (g := gb407)) : gb407 ≠ gb408)); have n6_ := Aside0.mk ((by rw [hg]; exact Nat.ne_of_gt (bkl (g := gb407)) : gb408 ≠ gb407)); clear BK407; clear HB; have BK407 := n0_; have HB := n1_; have BK408 := n2_; have GW408 := n3_; have GE408 := n4_; have NB407_408 := n5_; have NB408_407 := n6_; clear n0_ n1_ n2_ n3_ n4_ n5_ n6_; clear hb hbox hg))
  have n0_ := Aside0.mk (blk_drew BK407.out)
  have n1_ := Aside0.mk (blk_drew BK408.out)
  have n2_ := Aside0.mk (below_drew1 HB.out)
  clear BK407
  clear BK408
  clear HB
  have BK407 := n0_
  have BK408 := n1_
  have HB := n2_
  clear n0_ n1_ n2_
  refine start_ (n := 11) (S := fun w' => w'.cell? ⟨gb407, 0, none⟩ = some (.string a0_0) ∧ w'.cell? ⟨gb407, 1, none⟩ = some (.slice A0_1 l0_1.length c0_1) ∧ w'.cell? ⟨gb407, 2, none⟩ = some (.slice A0_2 l0_2.length c0_2) ∧ w'.cell? ⟨gb407, 3, none⟩ = some (.slice A0_3 l0_3.length c0_3) ∧ w'.cell? ⟨gb407, 4, none⟩ = some (.int .i64 a0_4) ∧ w'.cell? ⟨gb407, 5, none⟩ = some (.int .i64 a0_5)) (ds := []) #[false, false, false, false, false, false, false, false, false, false, false] (by kernel_rfl) rfl rfl ⟨(blk_cell BK407.out 0).trans rfl, (blk_cell BK407.out 1).trans rfl, (blk_cell BK407.out 2).trans rfl, (blk_cell BK407.out 3).trans rfl, (blk_cell BK407.out 4).trans rfl, (blk_cell BK407.out 5).trans rfl⟩ (fun hHeld => ?_); refine with_tabW bluebellref06_placed.tab1 bluebellref06_placed.bits1 (fun HT_ HW_ => ?_)
  generalize w8.drew = w9 at BK407 BK408 HB hHeld ⊢
  refine pureE (i := 0) (N := some 10) #[true, false, false, false, false, false, false, false, false, false, false] HT_.out ?_
  refine pureE (i := 4) (N := some 14) #[true, false, false, false, true, false, false, false, false, false, false] HT_.out ?_
  refine take_ (i := 1) (N := some 11) (v := ?_) (a' := ?_) #[true, true, false, false, true, false, false, false, false, false, false] rfl rfl (take_ofW HT_.out HW_.out (by kernel_rfl)) (fun _ _ _ h => h) (Or.inl ⟨by rfl, ?_⟩) hHeld ?_ ?_
  rotate_left
  ·rintro w' ⟨s0, s1, s2, s3, s4, s5⟩
   go_simp
   with_reducible rfl
  rotate_left
  ·simp only [Act.put, List.setIfInBounds_toArray, List.set_cons_zero, List.set_cons_succ, i64_w, i32_w]
   rfl
  refine pureE (i := 2) (N := some 12) #[true, true, true, false, true, false, false, false, false, false, false] HT_.out ?_
  refine take_ (i := 5) (N := some 15) (v := ?_) (a' := ?_) #[true, true, true, false, true, true, false, false, false, false, false] rfl rfl (take_ofW HT_.out HW_.out (by kernel_rfl)) (fun _ _ _ h => h) (Or.inl ⟨by rfl, ?_⟩) hHeld ?_ ?_
  rotate_left
  ·rintro w' ⟨s0, s1, s2, s3, s4, s5⟩
   go_simp
   with_reducible rfl
  rotate_left
  ·simp only [Act.put, List.setIfInBounds_toArray, List.set_cons_zero, List.set_cons_succ, i64_w, i32_w]
   rfl
  refine pureE (i := 6) (N := some 16) #[true, true, true, false, true, true, true, false, false, false, false] HT_.out ?_
  refine join_ (σ := Value × Value × Nat) 1 #[true, true, true, true, true, true, true, true, true, true, false] (fun s_ => [(13, s_.1), (17, s_.2.1), (4, .pointer (some ⟨s_.2.2, 0, none⟩)), (18, .agg #[s_.1, s_.2.1])]) (fun s_ w' => (w'.cell? ⟨gb407, 0, none⟩ = some (.string a0_0) ∧ w'.cell? ⟨gb407, 1, none⟩ = some (.slice A0_1 l0_1.length c0_1) ∧ w'.cell? ⟨gb407, 2, none⟩ = some (.slice A0_2 l0_2.length c0_2) ∧ w'.cell? ⟨gb407, 3, none⟩ = some (.slice A0_3 l0_3.length c0_3) ∧ w'.cell? ⟨gb407, 4, none⟩ = some (.int .i64 a0_4) ∧ w'.cell? ⟨gb407, 5, none⟩ = some (.int .i64 a0_5)) ∧ (Kd.R (Kd.int .i64) 3 w' w.heap.size (fun k_ => some k_ ≠ (s_.2.1 : Value).ownBlock) s_.1 y409) ∧ (Kd.R (Kd.int .i64) 3 w' w.heap.size (fun k_ => some k_ ≠ (s_.1 : Value).ownBlock) s_.2.1 y412) ∧ (w'.heap[gb407]? = some (.cells #[.string a0_0, .slice A0_1 l0_1.length c0_1, .slice A0_2 l0_2.length c0_2, .slice A0_3 l0_3.length c0_3, .int .i64 a0_4, .int .i64 a0_5] 26 (0, 0))) ∧ (w'.heap[gb408]? = some (.cells #[.slice none 0 0, .slice none 0 0] 60 (0, 0))) ∧ (w'.heap[s_.2.2]? = some (.cells #[.slice none 0 0, .slice none 0 0] 60 (0, 0))) ∧ (w.heap.size ≤ s_.2.2) ∧ (w.heap.size ≤ s_.2.2) ∧ (gb407 ≠ s_.2.2) ∧ (s_.2.2 ≠ gb407) ∧ (gb408 ≠ s_.2.2) ∧ (s_.2.2 ≠ gb408) ∧ (Below w.heap.size w w')) ?_ ?_
  rotate_left
  ·intro hJ3_7_9
   refine join_ (σ := Value × Value) 2 #[true, true, true, true, true, true, true, true, true, false, false] (fun s_ => [(13, s_.1), (17, s_.2), (18, .agg #[s_.1, s_.2])]) (fun s_ w' => (w'.cell? ⟨gb407, 0, none⟩ = some (.string a0_0) ∧ w'.cell? ⟨gb407, 1, none⟩ = some (.slice A0_1 l0_1.length c0_1) ∧ w'.cell? ⟨gb407, 2, none⟩ = some (.slice A0_2 l0_2.length c0_2) ∧ w'.cell? ⟨gb407, 3, none⟩ = some (.slice A0_3 l0_3.length c0_3) ∧ w'.cell? ⟨gb407, 4, none⟩ = some (.int .i64 a0_4) ∧ w'.cell? ⟨gb407, 5, none⟩ = some (.int .i64 a0_5)) ∧ (Kd.R (Kd.int .i64) 3 w' w.heap.size (fun k_ => some k_ ≠ (s_.2 : Value).ownBlock) s_.1 y409) ∧ (Kd.R (Kd.int .i64) 3 w' w.heap.size (fun k_ => some k_ ≠ (s_.1 : Value).ownBlock) s_.2 y412) ∧ (w'.heap[gb407]? = some (.cells #[.string a0_0, .slice A0_1 l0_1.length c0_1, .slice A0_2 l0_2.length c0_2, .slice A0_3 l0_3.length c0_3, .int .i64 a0_4, .int .i64 a0_5] 26 (0, 0))) ∧ (w'.heap[gb408]? = some (.cells #[.slice none 0 0, .slice none 0 0] 60 (0, 0))) ∧ (Below w.heap.size w w')) ?_ ?_
   rotate_left
   ·intro hJ3_7
    refine join_ (σ := Value × Nat) 3 #[true, true, true, true, true, true, true, false, false, true, false] (fun s_ => [(13, s_.1), (4, .pointer (some ⟨s_.2, 0, none⟩))]) (fun s_ w' => (w'.cell? ⟨gb407, 0, none⟩ = some (.string a0_0) ∧ w'.cell? ⟨gb407, 1, none⟩ = some (.slice A0_1 l0_1.length c0_1) ∧ w'.cell? ⟨gb407, 2, none⟩ = some (.slice A0_2 l0_2.length c0_2) ∧ w'.cell? ⟨gb407, 3, none⟩ = some (.slice A0_3 l0_3.length c0_3) ∧ w'.cell? ⟨gb407, 4, none⟩ = some (.int .i64 a0_4) ∧ w'.cell? ⟨gb407, 5, none⟩ = some (.int .i64 a0_5)) ∧ (Kd.R (Kd.int .i64) 3 w' w.heap.size (fun _ => True) s_.1 y409) ∧ (w'.heap[gb407]? = some (.cells #[.string a0_0, .slice A0_1 l0_1.length c0_1, .slice A0_2 l0_2.length c0_2, .slice A0_3 l0_3.length c0_3, .int .i64 a0_4, .int .i64 a0_5] 26 (0, 0))) ∧ (w'.heap[gb408]? = some (.cells #[.slice none 0 0, .slice none 0 0] 60 (0, 0))) ∧ (w'.heap[s_.2]? = some (.cells #[.slice none 0 0, .slice none 0 0] 60 (0, 0))) ∧ (w.heap.size ≤ s_.2) ∧ (w.heap.size ≤ s_.2) ∧ (gb407 ≠ s_.2) ∧ (s_.2 ≠ gb407) ∧ (gb408 ≠ s_.2) ∧ (s_.2 ≠ gb408) ∧ (Below w.heap.size w w')) ?_ ?_
    rotate_left
    ·intro hJ3_9
     refine join_ (σ := Value × Nat) 3 #[true, true, true, false, true, true, true, true, false, true, false] (fun s_ => [(17, s_.1), (4, .pointer (some ⟨s_.2, 0, none⟩))]) (fun s_ w' => (w'.cell? ⟨gb407, 0, none⟩ = some (.string a0_0) ∧ w'.cell? ⟨gb407, 1, none⟩ = some (.slice A0_1 l0_1.length c0_1) ∧ w'.cell? ⟨gb407, 2, none⟩ = some (.slice A0_2 l0_2.length c0_2) ∧ w'.cell? ⟨gb407, 3, none⟩ = some (.slice A0_3 l0_3.length c0_3) ∧ w'.cell? ⟨gb407, 4, none⟩ = some (.int .i64 a0_4) ∧ w'.cell? ⟨gb407, 5, none⟩ = some (.int .i64 a0_5)) ∧ (Kd.R (Kd.int .i64) 3 w' w.heap.size (fun _ => True) s_.1 y412) ∧ (w'.heap[gb407]? = some (.cells #[.string a0_0, .slice A0_1 l0_1.length c0_1, .slice A0_2 l0_2.length c0_2, .slice A0_3 l0_3.length c0_3, .int .i64 a0_4, .int .i64 a0_5] 26 (0, 0))) ∧ (w'.heap[gb408]? = some (.cells #[.slice none 0 0, .slice none 0 0] 60 (0, 0))) ∧ (w'.heap[s_.2]? = some (.cells #[.slice none 0 0, .slice none 0 0] 60 (0, 0))) ∧ (w.heap.size ≤ s_.2) ∧ (w.heap.size ≤ s_.2) ∧ (gb407 ≠ s_.2) ∧ (s_.2 ≠ gb407) ∧ (gb408 ≠ s_.2) ∧ (s_.2 ≠ gb408) ∧ (Below w.heap.size w w')) ?_ ?_
     rotate_left
     ·intro hJ7_9
      refine join_ (σ := Value) 4 #[true, true, true, true, true, true, true, false, false, false, false] (fun s_ => [(13, s_)]) (fun s_ w' => (w'.cell? ⟨gb407, 0, none⟩ = some (.string a0_0) ∧ w'.cell? ⟨gb407, 1, none⟩ = some (.slice A0_1 l0_1.length c0_1) ∧ w'.cell? ⟨gb407, 2, none⟩ = some (.slice A0_2 l0_2.length c0_2) ∧ w'.cell? ⟨gb407, 3, none⟩ = some (.slice A0_3 l0_3.length c0_3) ∧ w'.cell? ⟨gb407, 4, none⟩ = some (.int .i64 a0_4) ∧ w'.cell? ⟨gb407, 5, none⟩ = some (.int .i64 a0_5)) ∧ (Kd.R (Kd.int .i64) 3 w' w.heap.size (fun _ => True) s_ y409) ∧ (w'.heap[gb407]? = some (.cells #[.string a0_0, .slice A0_1 l0_1.length c0_1, .slice A0_2 l0_2.length c0_2, .slice A0_3 l0_3.length c0_3, .int .i64 a0_4, .int .i64 a0_5] 26 (0, 0))) ∧ (w'.heap[gb408]? = some (.cells #[.slice none 0 0, .slice none 0 0] 60 (0, 0))) ∧ (Below w.heap.size w w')) ?_ ?_
      rotate_left
      ·intro hJ3
       refine join_ (σ := Value) 4 #[true, true, true, false, true, true, true, true, false, false, false] (fun s_ => [(17, s_)]) (fun s_ w' => (w'.cell? ⟨gb407, 0, none⟩ = some (.string a0_0) ∧ w'.cell? ⟨gb407, 1, none⟩ = some (.slice A0_1 l0_1.length c0_1) ∧ w'.cell? ⟨gb407, 2, none⟩ = some (.slice A0_2 l0_2.length c0_2) ∧ w'.cell? ⟨gb407, 3, none⟩ = some (.slice A0_3 l0_3.length c0_3) ∧ w'.cell? ⟨gb407, 4, none⟩ = some (.int .i64 a0_4) ∧ w'.cell? ⟨gb407, 5, none⟩ = some (.int .i64 a0_5)) ∧ (Kd.R (Kd.int .i64) 3 w' w.heap.size (fun _ => True) s_ y412) ∧ (w'.heap[gb407]? = some (.cells #[.string a0_0, .slice A0_1 l0_1.length c0_1, .slice A0_2 l0_2.length c0_2, .slice A0_3 l0_3.length c0_3, .int .i64 a0_4, .int .i64 a0_5] 26 (0, 0))) ∧ (w'.heap[gb408]? = some (.cells #[.slice none 0 0, .slice none 0 0] 60 (0, 0))) ∧ (Below w.heap.size w w')) ?_ ?_
       rotate_left
       ·intro hJ7
        refine join_ (σ := Nat) 4 #[true, true, true, false, true, true, true, false, false, true, false] (fun s_ => [(4, .pointer (some ⟨s_, 0, none⟩))]) (fun s_ w' => (w'.cell? ⟨gb407, 0, none⟩ = some (.string a0_0) ∧ w'.cell? ⟨gb407, 1, none⟩ = some (.slice A0_1 l0_1.length c0_1) ∧ w'.cell? ⟨gb407, 2, none⟩ = some (.slice A0_2 l0_2.length c0_2) ∧ w'.cell? ⟨gb407, 3, none⟩ = some (.slice A0_3 l0_3.length c0_3) ∧ w'.cell? ⟨gb407, 4, none⟩ = some (.int .i64 a0_4) ∧ w'.cell? ⟨gb407, 5, none⟩ = some (.int .i64 a0_5)) ∧ (w'.heap[gb407]? = some (.cells #[.string a0_0, .slice A0_1 l0_1.length c0_1, .slice A0_2 l0_2.length c0_2, .slice A0_3 l0_3.length c0_3, .int .i64 a0_4, .int .i64 a0_5] 26 (0, 0))) ∧ (w'.heap[gb408]? = some (.cells #[.slice none 0 0, .slice none 0 0] 60 (0, 0))) ∧ (w'.heap[s_]? = some (.cells #[.slice none 0 0, .slice none 0 0] 60 (0, 0))) ∧ (w.heap.size ≤ s_) ∧ (w.heap.size ≤ s_) ∧ (gb407 ≠ s_) ∧ (s_ ≠ gb407) ∧ (gb408 ≠ s_) ∧ (s_ ≠ gb408) ∧ (Below w.heap.size w w')) ?_ ?_
        rotate_left
        ·intro hJ9
         refine three_ (i := 3) (j := 7) (k := 9) (Ni := some 13) (Nj := some 17) (Nk := some 4) #[true, true, true, true, true, true, true, false, false, false, false] #[true, true, true, false, true, true, true, true, false, false, false] #[true, true, true, false, true, true, true, false, false, true, false] rfl rfl rfl rfl rfl rfl (three_of HT_.out (by kernel_rfl)) (by decide) (by decide) (by decide) (fun K hK => ?_) (fun K hK => ?_) (fun K hK => ?_)
         ·skip
          refine Kd.R_make_step (Kd.int .i64) _ 3 (by rfl) (N := 13) rfl 29 _ _ rfl ji2 rfl rfl Try.underlying29 (.int .i64 0) 8 info3 rfl (by decide) (by omega) 0 (ok := fun _ => True) (okp := fun _ => True) rfl (fun _ hk => hk) trivial (ofd) (Nat.le_trans (Nat.mul_le_mul_right _ (ofd : ji2.toNat ≤ 35184372088832)) (by omega)) (Below.refl _ _) (Nat.le_refl _) ?_
          intro v410 w10 ho11 hb hg_ hnew_
          clear hg_ hnew_
          (first | rw [← Ny409.out] at ho11 | (simp only [Int.reduceToNat] at ho11; rw [← Ny409.out] at ho11))
          have n0_ := Aside0.mk (Kd.R_lower ho11 bsz)
          have n1_ := Aside0.mk (bkb (g := gb407) hb)
          have n2_ := Aside0.mk (bkb (g := gb408) hb)
          have n3_ := Aside0.mk (bstep hb)
          clear BK407
          clear BK408
          clear HB
          have HO411 := n0_
          have BK407 := n1_
          have BK408 := n2_
          have HB := n3_
          clear n0_ n1_ n2_ n3_
          clear hb ho11
          refine hK.out _ _ ⟨(blk_cell BK407.out 0).trans rfl, (blk_cell BK407.out 1).trans rfl, (blk_cell BK407.out 2).trans rfl, (blk_cell BK407.out 3).trans rfl, (blk_cell BK407.out 4).trans rfl, (blk_cell BK407.out 5).trans rfl⟩ (fun hHeld => ?_)
          clear hK K
          refine norm_ (a' := ?_) ?_ ?_
          rotate_left
          ·show Act.put _ (some 13) _ = _
           simp only [Act.put, List.setIfInBounds_toArray, List.set_cons_zero, List.set_cons_succ, i64_w, i32_w]
           rfl
          exact norm_ (by first | (simp only [putAll, Act.put, List.setIfInBounds_toArray, List.set_cons_zero, List.set_cons_succ]; done) | (simp only [putAll, Act.put, List.setIfInBounds_toArray, List.set_cons_zero, List.set_cons_succ]; rfl)) (hJ3 (v410) _ ⟨hHeld, (by (with_reducible repeat (first | apply Kd.R_alloc | apply Kd.R_drewN | apply Kd.R_drew)); exact HO411.out), bk, bk, bw⟩)
         ·skip
          refine Kd.R_make_step (Kd.int .i64) _ 3 (by rfl) (N := 17) rfl 29 _ _ rfl (l0_2.length : Int) rfl rfl Try.underlying29 (.int .i64 0) 8 info3 rfl (by decide) (by omega) 0 (ok := fun _ => True) (okp := fun _ => True) rfl (fun _ hk => hk) trivial (ofd) (Nat.le_trans (Nat.mul_le_mul_right _ (ofd : (l0_2.length : Int).toNat ≤ 35184372088832)) (by omega)) (Below.refl _ _) (Nat.le_refl _) ?_
          intro v413 w10 ho11 hb hg_ hnew_
          clear hg_ hnew_
          (first | rw [← Ny412.out] at ho11 | (simp only [Int.reduceToNat] at ho11; rw [← Ny412.out] at ho11))
          have n0_ := Aside0.mk (Kd.R_lower ho11 bsz)
          have n1_ := Aside0.mk (bkb (g := gb407) hb)
          have n2_ := Aside0.mk (bkb (g := gb408) hb)
          have n3_ := Aside0.mk (bstep hb)
          clear BK407
          clear BK408
          clear HB
          have HO414 := n0_
          have BK407 := n1_
          have BK408 := n2_
          have HB := n3_
          clear n0_ n1_ n2_ n3_
          clear hb ho11
          refine hK.out _ _ ⟨(blk_cell BK407.out 0).trans rfl, (blk_cell BK407.out 1).trans rfl, (blk_cell BK407.out 2).trans rfl, (blk_cell BK407.out 3).trans rfl, (blk_cell BK407.out 4).trans rfl, (blk_cell BK407.out 5).trans rfl⟩ (fun hHeld => ?_)
          clear hK K
          refine norm_ (a' := ?_) ?_ ?_
          rotate_left
          ·show Act.put _ (some 17) _ = _
           simp only [Act.put, List.setIfInBounds_toArray, List.set_cons_zero, List.set_cons_succ, i64_w, i32_w]
           rfl
          exact norm_ (by first | (simp only [putAll, Act.put, List.setIfInBounds_toArray, List.set_cons_zero, List.set_cons_succ]; done) | (simp only [putAll, Act.put, List.setIfInBounds_toArray, List.set_cons_zero, List.set_cons_succ]; rfl)) (hJ7 (v413) _ ⟨hHeld, (by (with_reducible repeat (first | apply Kd.R_alloc | apply Kd.R_drewN | apply Kd.R_drew)); exact HO414.out), bk, bk, bw⟩)
         ·skip
          refine box_step ?hg (N := 4) ?hd (cs := #[.slice none 0 0, .slice none 0 0]) (t := 60) ?hr ?_; (case hd => rfl); (case hg => rfl); (case hr => first | (go_simp; done) | (go_simp; rfl))
          intro gb415 hg w10 hbox hb
          have n0_ := Aside0.mk (bkb (g := gb407) hb)
          have n1_ := Aside0.mk (bkb (g := gb408) hb)
          have n2_ := Aside0.mk (bstep hb)
          have n3_ := Aside0.mk (hbox)
          have n4_ := Aside0.mk ((by rw [hg]; exact bsz : w.heap.size ≤ gb415))
          have n5_ := Aside0.mk ((by rw [hg]; exact bsz : w.heap.size ≤ gb415))
          have n6_ := Aside0.mk ((by rw [hg]; exact Nat.ne_of_lt (bkl (g := gb407)) : gb407 ≠ gb415))
          have n7_ := Aside0.mk ((by rw [hg]; exact Nat.ne_of_gt (bkl (g := gb407)) : gb415 ≠ gb407))
          have n8_ := Aside0.mk ((by rw [hg]; exact Nat.ne_of_lt (bkl (g := gb408)) : gb408 ≠ gb415))
          have n9_ := Aside0.mk ((by rw [hg]; exact Nat.ne_of_gt (bkl (g := gb408)) : gb415 ≠ gb408))
          clear BK407
          clear BK408
          clear HB
          have BK407 := n0_
          have BK408 := n1_
          have HB := n2_
          have BK415 := n3_
          have GW415 := n4_
          have GE415 := n5_
          have NB407_415 := n6_
          have NB415_407 := n7_
          have NB408_415 := n8_
          have NB415_408 := n9_
          clear n0_ n1_ n2_ n3_ n4_ n5_ n6_ n7_ n8_ n9_
          clear hb hbox hg
          refine hK.out _ _ ⟨(blk_cell BK407.out 0).trans rfl, (blk_cell BK407.out 1).trans rfl, (blk_cell BK407.out 2).trans rfl, (blk_cell BK407.out 3).trans rfl, (blk_cell BK407.out 4).trans rfl, (blk_cell BK407.out 5).trans rfl⟩ (fun hHeld => ?_)
          clear hK K
          refine norm_ (a' := ?_) ?_ ?_
          rotate_left
          ·show Act.put _ (some 4) _ = _
           simp only [Act.put, List.setIfInBounds_toArray, List.set_cons_zero, List.set_cons_succ, i64_w, i32_w]
           rfl
          exact norm_ (by first | (simp only [putAll, Act.put, List.setIfInBounds_toArray, List.set_cons_zero, List.set_cons_succ]; done) | (simp only [putAll, Act.put, List.setIfInBounds_toArray, List.set_cons_zero, List.set_cons_succ]; rfl)) (hJ9 (gb415) _ ⟨hHeld, bk, bk, bk, GW415.out, GE415.out, NB407_415.out, NB415_407.out, NB408_415.out, NB415_408.out, bw⟩)
        ·skip
         rintro gb415 w11 ⟨hS_, h0_, h1_, h2_, h3_, h4_, h5_, h6_, h7_, h8_, h9_⟩
         have n0_ : Aside0 (w11.heap[gb407]? = some (.cells #[.string a0_0, .slice A0_1 l0_1.length c0_1, .slice A0_2 l0_2.length c0_2, .slice A0_3 l0_3.length c0_3, .int .i64 a0_4, .int .i64 a0_5] 26 (0, 0))) := ⟨h0_⟩
         have n1_ : Aside0 (w11.heap[gb408]? = some (.cells #[.slice none 0 0, .slice none 0 0] 60 (0, 0))) := ⟨h1_⟩
         have n2_ : Aside0 (w11.heap[gb415]? = some (.cells #[.slice none 0 0, .slice none 0 0] 60 (0, 0))) := ⟨h2_⟩
         have n3_ : Aside0 (w.heap.size ≤ gb415) := ⟨h3_⟩
         have n4_ : Aside0 (w.heap.size ≤ gb415) := ⟨h4_⟩
         have n5_ : Aside0 (gb407 ≠ gb415) := ⟨h5_⟩
         have n6_ : Aside0 (gb415 ≠ gb407) := ⟨h6_⟩
         have n7_ : Aside0 (gb408 ≠ gb415) := ⟨h7_⟩
         have n8_ : Aside0 (gb415 ≠ gb408) := ⟨h8_⟩
         have n9_ : Aside0 (Below w.heap.size w w11) := ⟨h9_⟩
         clear BK407
         clear BK408
         clear HB
         clear h0_ h1_ h2_ h3_ h4_ h5_ h6_ h7_ h8_ h9_
         have BK407 := n0_
         have BK408 := n1_
         have BK415 := n2_
         have GW415 := n3_
         have GE415 := n4_
         have NB407_415 := n5_
         have NB415_407 := n6_
         have NB408_415 := n7_
         have NB415_408 := n8_
         have HB := n9_
         clear n0_ n1_ n2_ n3_ n4_ n5_ n6_ n7_ n8_ n9_
         have hHeld : w11.cell? ⟨gb407, 0, none⟩ = some (.string a0_0) ∧ w11.cell? ⟨gb407, 1, none⟩ = some (.slice A0_1 l0_1.length c0_1) ∧ w11.cell? ⟨gb407, 2, none⟩ = some (.slice A0_2 l0_2.length c0_2) ∧ w11.cell? ⟨gb407, 3, none⟩ = some (.slice A0_3 l0_3.length c0_3) ∧ w11.cell? ⟨gb407, 4, none⟩ = some (.int .i64 a0_4) ∧ w11.cell? ⟨gb407, 5, none⟩ = some (.int .i64 a0_5) := hS_
         refine norm_ (a' := ?_) ?_ ?_
         rotate_left
         ·simp only [putAll, Act.put, List.setIfInBounds_toArray, List.set_cons_zero, List.set_cons_succ]
          rfl
         refine two_ (i := 3) (j := 7) (Ni := some 13) (Nj := some 17) #[true, true, true, true, true, true, true, false, false, true, false] #[true, true, true, false, true, true, true, true, false, true, false] rfl rfl rfl rfl (two_of HT_.out (by kernel_rfl)) (by decide) (by decide) (fun K hK => ?_) (fun K hK => ?_)
         ·skip
          refine Kd.R_make_step (Kd.int .i64) _ 3 (by rfl) (N := 13) rfl 29 _ _ rfl ji2 rfl rfl Try.underlying29 (.int .i64 0) 8 info3 rfl (by decide) (by omega) 0 (ok := fun _ => True) (okp := fun _ => True) rfl (fun _ hk => hk) trivial (ofd) (Nat.le_trans (Nat.mul_le_mul_right _ (ofd : ji2.toNat ≤ 35184372088832)) (by omega)) (Below.refl _ _) (Nat.le_refl _) ?_
          intro v410 w12 ho13 hb hg_ hnew_
          clear hg_ hnew_
          (first | rw [← Ny409.out] at ho13 | (simp only [Int.reduceToNat] at ho13; rw [← Ny409.out] at ho13))
          have n0_ := Aside0.mk (Kd.R_lower ho13 bsz)
          have n1_ := Aside0.mk (bkb (g := gb407) hb)
          have n2_ := Aside0.mk (bkb (g := gb408) hb)
          have n3_ := Aside0.mk (bkb (g := gb415) hb)
          have n4_ := Aside0.mk (bstep hb)
          clear BK407
          clear BK408
          clear BK415
          clear HB
          have HO411 := n0_
          have BK407 := n1_
          have BK408 := n2_
          have BK415 := n3_
          have HB := n4_
          clear n0_ n1_ n2_ n3_ n4_
          clear hb ho13
          refine hK.out _ _ ⟨(blk_cell BK407.out 0).trans rfl, (blk_cell BK407.out 1).trans rfl, (blk_cell BK407.out 2).trans rfl, (blk_cell BK407.out 3).trans rfl, (blk_cell BK407.out 4).trans rfl, (blk_cell BK407.out 5).trans rfl⟩ (fun hHeld => ?_)
          clear hK K
          refine norm_ (a' := ?_) ?_ ?_
          rotate_left
          ·show Act.put _ (some 13) _ = _
           simp only [Act.put, List.setIfInBounds_toArray, List.set_cons_zero, List.set_cons_succ, i64_w, i32_w]
           rfl
          exact norm_ (by first | (simp only [putAll, Act.put, List.setIfInBounds_toArray, List.set_cons_zero, List.set_cons_succ]; done) | (simp only [putAll, Act.put, List.setIfInBounds_toArray, List.set_cons_zero, List.set_cons_succ]; rfl)) (hJ3_9 (v410, gb415) _ ⟨hHeld, (by (with_reducible repeat (first | apply Kd.R_alloc | apply Kd.R_drewN | apply Kd.R_drew)); exact HO411.out), bk, bk, bk, GW415.out, GE415.out, NB407_415.out, NB415_407.out, NB408_415.out, NB415_408.out, bw⟩)
         ·skip
          refine Kd.R_make_step (Kd.int .i64) _ 3 (by rfl) (N := 17) rfl 29 _ _ rfl (l0_2.length : Int) rfl rfl Try.underlying29 (.int .i64 0) 8 info3 rfl (by decide) (by omega) 0 (ok := fun _ => True) (okp := fun _ => True) rfl (fun _ hk => hk) trivial (ofd) (Nat.le_trans (Nat.mul_le_mul_right _ (ofd : (l0_2.length : Int).toNat ≤ 35184372088832)) (by omega)) (Below.refl _ _) (Nat.le_refl _) ?_
          intro v413 w12 ho13 hb hg_ hnew_
          clear hg_ hnew_
          (first | rw [← Ny412.out] at ho13 | (simp only [Int.reduceToNat] at ho13; rw [← Ny412.out] at ho13))
          have n0_ := Aside0.mk (Kd.R_lower ho13 bsz)
          have n1_ := Aside0.mk (bkb (g := gb407) hb)
          have n2_ := Aside0.mk (bkb (g := gb408) hb)
          have n3_ := Aside0.mk (bkb (g := gb415) hb)
          have n4_ := Aside0.mk (bstep hb)
          clear BK407
          clear BK408
          clear BK415
          clear HB
          have HO414 := n0_
          have BK407 := n1_
          have BK408 := n2_
          have BK415 := n3_
          have HB := n4_
          clear n0_ n1_ n2_ n3_ n4_
          clear hb ho13
          refine hK.out _ _ ⟨(blk_cell BK407.out 0).trans rfl, (blk_cell BK407.out 1).trans rfl, (blk_cell BK407.out 2).trans rfl, (blk_cell BK407.out 3).trans rfl, (blk_cell BK407.out 4).trans rfl, (blk_cell BK407.out 5).trans rfl⟩ (fun hHeld => ?_)
          clear hK K
          refine norm_ (a' := ?_) ?_ ?_
          rotate_left
          ·show Act.put _ (some 17) _ = _
           simp only [Act.put, List.setIfInBounds_toArray, List.set_cons_zero, List.set_cons_succ, i64_w, i32_w]
           rfl
          exact norm_ (by first | (simp only [putAll, Act.put, List.setIfInBounds_toArray, List.set_cons_zero, List.set_cons_succ]; done) | (simp only [putAll, Act.put, List.setIfInBounds_toArray, List.set_cons_zero, List.set_cons_succ]; rfl)) (hJ7_9 (v413, gb415) _ ⟨hHeld, (by (with_reducible repeat (first | apply Kd.R_alloc | apply Kd.R_drewN | apply Kd.R_drew)); exact HO414.out), bk, bk, bk, GW415.out, GE415.out, NB407_415.out, NB415_407.out, NB408_415.out, NB415_408.out, bw⟩)
       ·skip
        rintro v413 w12 ⟨hS_, h0_, h1_, h2_, h3_⟩
        have n0_ : Aside0 (Kd.R (Kd.int .i64) 3 w12 w.heap.size (fun _ => True) v413 y412) := ⟨h0_⟩
        have n1_ : Aside0 (w12.heap[gb407]? = some (.cells #[.string a0_0, .slice A0_1 l0_1.length c0_1, .slice A0_2 l0_2.length c0_2, .slice A0_3 l0_3.length c0_3, .int .i64 a0_4, .int .i64 a0_5] 26 (0, 0))) := ⟨h1_⟩
        have n2_ : Aside0 (w12.heap[gb408]? = some (.cells #[.slice none 0 0, .slice none 0 0] 60 (0, 0))) := ⟨h2_⟩
        have n3_ : Aside0 (Below w.heap.size w w12) := ⟨h3_⟩
        clear BK407
        clear BK408
        clear HB
        clear h0_ h1_ h2_ h3_
        have HO414 := n0_
        have BK407 := n1_
        have BK408 := n2_
        have HB := n3_
        clear n0_ n1_ n2_ n3_
        have hHeld : w12.cell? ⟨gb407, 0, none⟩ = some (.string a0_0) ∧ w12.cell? ⟨gb407, 1, none⟩ = some (.slice A0_1 l0_1.length c0_1) ∧ w12.cell? ⟨gb407, 2, none⟩ = some (.slice A0_2 l0_2.length c0_2) ∧ w12.cell? ⟨gb407, 3, none⟩ = some (.slice A0_3 l0_3.length c0_3) ∧ w12.cell? ⟨gb407, 4, none⟩ = some (.int .i64 a0_4) ∧ w12.cell? ⟨gb407, 5, none⟩ = some (.int .i64 a0_5) := hS_
        refine norm_ (a' := ?_) ?_ ?_
        rotate_left
        ·simp only [putAll, Act.put, List.setIfInBounds_toArray, List.set_cons_zero, List.set_cons_succ]
         rfl
        refine two_ (i := 3) (j := 9) (Ni := some 13) (Nj := some 4) #[true, true, true, true, true, true, true, true, false, false, false] #[true, true, true, false, true, true, true, true, false, true, false] rfl rfl rfl rfl (two_of HT_.out (by kernel_rfl)) (by decide) (by decide) (fun K hK => ?_) (fun K hK => ?_)
        ·skip
         refine Kd.R_make_step (Kd.int .i64) _ 3 (by rfl) (N := 13) rfl 29 _ _ rfl ji2 rfl rfl Try.underlying29 (.int .i64 0) 8 info3 rfl (by decide) (by omega) 0 (ok := fun _ => True) (okp := fun _ => True) rfl (fun _ hk => hk) trivial (ofd) (Nat.le_trans (Nat.mul_le_mul_right _ (ofd : ji2.toNat ≤ 35184372088832)) (by omega)) (Below.refl _ _) (Nat.le_refl _) ?_
         intro v410 w13 ho14 hb hg_ hnew_
         clear hg_ hnew_
         (first | rw [← Ny409.out] at ho14 | (simp only [Int.reduceToNat] at ho14; rw [← Ny409.out] at ho14))
         have n0_ := Aside0.mk (Kd.R_elder' (by (with_reducible repeat (first | apply Kd.R_alloc | apply Kd.R_drewN | apply Kd.R_drew)); exact HO414.out) (Kd.R_base ho14) hb)
         have n1_ := Aside0.mk (Kd.R_lower (Kd.R_new' ho14 (Kd.R_lt (by (with_reducible repeat (first | apply Kd.R_alloc | apply Kd.R_drewN | apply Kd.R_drew)); exact HO414.out))) bsz)
         have n2_ := Aside0.mk (bkb (g := gb407) hb)
         have n3_ := Aside0.mk (bkb (g := gb408) hb)
         have n4_ := Aside0.mk (bstep hb)
         clear HO414
         clear BK407
         clear BK408
         clear HB
         have HO414 := n0_
         have HO411 := n1_
         have BK407 := n2_
         have BK408 := n3_
         have HB := n4_
         clear n0_ n1_ n2_ n3_ n4_
         clear hb ho14
         obtain ⟨Ao15, co15, eo15⟩ := Kd.R_slice HO414.out
         (first | subst eo15 | (injection eo15 with f1_ f2_ f3_; have f4_ := f1_.symm; have f5_ := f3_.symm; clear f1_ f2_ f3_; subst f4_; subst f5_))
         obtain ⟨Ao16, co16, eo16⟩ := Kd.R_slice HO411.out
         (first | subst eo16 | (injection eo16 with f1_ f2_ f3_; have f4_ := f1_.symm; have f5_ := f3_.symm; clear f1_ f2_ f3_; subst f4_; subst f5_))
         refine hK.out _ _ ⟨(blk_cell BK407.out 0).trans rfl, (blk_cell BK407.out 1).trans rfl, (blk_cell BK407.out 2).trans rfl, (blk_cell BK407.out 3).trans rfl, (blk_cell BK407.out 4).trans rfl, (blk_cell BK407.out 5).trans rfl⟩ (fun hHeld => ?_)
         clear hK K
         refine norm_ (a' := ?_) ?_ ?_
         rotate_left
         ·show Act.put _ (some 13) _ = _
          simp only [Act.put, List.setIfInBounds_toArray, List.set_cons_zero, List.set_cons_succ, i64_w, i32_w]
          rfl
         refine pureE (i := 8) (N := some 18) #[true, true, true, true, true, true, true, true, true, false, false] HT_.out ?_
         exact norm_ (by first | (simp only [putAll, Act.put, List.setIfInBounds_toArray, List.set_cons_zero, List.set_cons_succ]; done) | (simp only [putAll, Act.put, List.setIfInBounds_toArray, List.set_cons_zero, List.set_cons_succ]; rfl)) (hJ3_7 (.slice Ao16 y409.length co16, .slice Ao15 y412.length co15) _ ⟨hHeld, (by (with_reducible repeat (first | apply Kd.R_alloc | apply Kd.R_drewN | apply Kd.R_drew)); exact Kd.R_mono HO411.out (fun _ hk => hk.2)), (by (with_reducible repeat (first | apply Kd.R_alloc | apply Kd.R_drewN | apply Kd.R_drew)); exact Kd.R_mono HO414.out (fun _ hk => hk.2)), bk, bk, bw⟩)
        ·skip
         refine box_step ?hg (N := 4) ?hd (cs := #[.slice none 0 0, .slice none 0 0]) (t := 60) ?hr ?_; (case hd => rfl); (case hg => rfl); (case hr => first | (go_simp; done) | (go_simp; rfl))
         intro gb415 hg w13 hbox hb
         have n0_ := Aside0.mk (Kd.R_below (by (with_reducible repeat (first | apply Kd.R_alloc | apply Kd.R_drewN | apply Kd.R_drew)); exact HO414.out) hb)
         have n1_ := Aside0.mk (bkb (g := gb407) hb)
         have n2_ := Aside0.mk (bkb (g := gb408) hb)
         have n3_ := Aside0.mk (bstep hb)
         have n4_ := Aside0.mk (hbox)
         have n5_ := Aside0.mk ((by rw [hg]; exact bsz : w.heap.size ≤ gb415))
         have n6_ := Aside0.mk ((by rw [hg]; exact bsz : w.heap.size ≤ gb415))
         have n7_ := Aside0.mk ((by rw [hg]; exact Nat.ne_of_lt (bkl (g := gb407)) : gb407 ≠ gb415))
         have n8_ := Aside0.mk ((by rw [hg]; exact Nat.ne_of_gt (bkl (g := gb407)) : gb415 ≠ gb407))
         have n9_ := Aside0.mk ((by rw [hg]; exact Nat.ne_of_lt (bkl (g := gb408)) : gb408 ≠ gb415))
         have n10_ := Aside0.mk ((by rw [hg]; exact Nat.ne_of_gt (bkl (g := gb408)) : gb415 ≠ gb408))
         clear HO414
         clear BK407
         clear BK408
         clear HB
         have HO414 := n0_
         have BK407 := n1_
         have BK408 := n2_
         have HB := n3_
         have BK415 := n4_
         have GW415 := n5_
         have GE415 := n6_
         have NB407_415 := n7_
         have NB415_407 := n8_
         have NB408_415 := n9_
         have NB415_408 := n10_
         clear n0_ n1_ n2_ n3_ n4_ n5_ n6_ n7_ n8_ n9_ n10_
         clear hb hbox hg
         refine hK.out _ _ ⟨(blk_cell BK407.out 0).trans rfl, (blk_cell BK407.out 1).trans rfl, (blk_cell BK407.out 2).trans rfl, (blk_cell BK407.out 3).trans rfl, (blk_cell BK407.out 4).trans rfl, (blk_cell BK407.out 5).trans rfl⟩ (fun hHeld => ?_)
         clear hK K
         refine norm_ (a' := ?_) ?_ ?_
         rotate_left
         ·show Act.put _ (some 4) _ = _
          simp only [Act.put, List.setIfInBounds_toArray, List.set_cons_zero, List.set_cons_succ, i64_w, i32_w]
          rfl
         exact norm_ (by first | (simp only [putAll, Act.put, List.setIfInBounds_toArray, List.set_cons_zero, List.set_cons_succ]; done) | (simp only [putAll, Act.put, List.setIfInBounds_toArray, List.set_cons_zero, List.set_cons_succ]; rfl)) (hJ7_9 (v413, gb415) _ ⟨hHeld, (by (with_reducible repeat (first | apply Kd.R_alloc | apply Kd.R_drewN | apply Kd.R_drew)); exact HO414.out), bk, bk, bk, GW415.out, GE415.out, NB407_415.out, NB415_407.out, NB408_415.out, NB415_408.out, bw⟩)
      ·skip
       rintro v410 w12 ⟨hS_, h0_, h1_, h2_, h3_⟩
       have n0_ : Aside0 (Kd.R (Kd.int .i64) 3 w12 w.heap.size (fun _ => True) v410 y409) := ⟨h0_⟩
       have n1_ : Aside0 (w12.heap[gb407]? = some (.cells #[.string a0_0, .slice A0_1 l0_1.length c0_1, .slice A0_2 l0_2.length c0_2, .slice A0_3 l0_3.length c0_3, .int .i64 a0_4, .int .i64 a0_5] 26 (0, 0))) := ⟨h1_⟩
       have n2_ : Aside0 (w12.heap[gb408]? = some (.cells #[.slice none 0 0, .slice none 0 0] 60 (0, 0))) := ⟨h2_⟩
       have n3_ : Aside0 (Below w.heap.size w w12) := ⟨h3_⟩
       clear BK407
       clear BK408
       clear HB
       clear h0_ h1_ h2_ h3_
       have HO411 := n0_
       have BK407 := n1_
       have BK408 := n2_
       have HB := n3_
       clear n0_ n1_ n2_ n3_
       have hHeld : w12.cell? ⟨gb407, 0, none⟩ = some (.string a0_0) ∧ w12.cell? ⟨gb407, 1, none⟩ = some (.slice A0_1 l0_1.length c0_1) ∧ w12.cell? ⟨gb407, 2, none⟩ = some (.slice A0_2 l0_2.length c0_2) ∧ w12.cell? ⟨gb407, 3, none⟩ = some (.slice A0_3 l0_3.length c0_3) ∧ w12.cell? ⟨gb407, 4, none⟩ = some (.int .i64 a0_4) ∧ w12.cell? ⟨gb407, 5, none⟩ = some (.int .i64 a0_5) := hS_
       refine norm_ (a' := ?_) ?_ ?_
       rotate_left
       ·simp only [putAll, Act.put, List.setIfInBounds_toArray, List.set_cons_zero, List.set_cons_succ]
        rfl
       refine two_ (i := 7) (j := 9) (Ni := some 17) (Nj := some 4) #[true, true, true, true, true, true, true, true, false, false, false] #[true, true, true, true, true, true, true, false, false, true, false] rfl rfl rfl rfl (two_of HT_.out (by kernel_rfl)) (by decide) (by decide) (fun K hK => ?_) (fun K hK => ?_)
       ·skip
        refine Kd.R_make_step (Kd.int .i64) _ 3 (by rfl) (N := 17) rfl 29 _ _ rfl (l0_2.length : Int) rfl rfl Try.underlying29 (.int .i64 0) 8 info3 rfl (by decide) (by omega) 0 (ok := fun _ => True) (okp := fun _ => True) rfl (fun _ hk => hk) trivial (ofd) (Nat.le_trans (Nat.mul_le_mul_right _ (ofd : (l0_2.length : Int).toNat ≤ 35184372088832)) (by omega)) (Below.refl _ _) (Nat.le_refl _) ?_
        intro v413 w13 ho14 hb hg_ hnew_
        clear hg_ hnew_
        (first | rw [← Ny412.out] at ho14 | (simp only [Int.reduceToNat] at ho14; rw [← Ny412.out] at ho14))
        have n0_ := Aside0.mk (Kd.R_elder' (by (with_reducible repeat (first | apply Kd.R_alloc | apply Kd.R_drewN | apply Kd.R_drew)); exact HO411.out) (Kd.R_base ho14) hb)
        have n1_ := Aside0.mk (Kd.R_lower (Kd.R_new' ho14 (Kd.R_lt (by (with_reducible repeat (first | apply Kd.R_alloc | apply Kd.R_drewN | apply Kd.R_drew)); exact HO411.out))) bsz)
        have n2_ := Aside0.mk (bkb (g := gb407) hb)
        have n3_ := Aside0.mk (bkb (g := gb408) hb)
        have n4_ := Aside0.mk (bstep hb)
        clear HO411
        clear BK407
        clear BK408
        clear HB
        have HO411 := n0_
        have HO414 := n1_
        have BK407 := n2_
        have BK408 := n3_
        have HB := n4_
        clear n0_ n1_ n2_ n3_ n4_
        clear hb ho14
        obtain ⟨Ao15, co15, eo15⟩ := Kd.R_slice HO414.out
        (first | subst eo15 | (injection eo15 with f1_ f2_ f3_; have f4_ := f1_.symm; have f5_ := f3_.symm; clear f1_ f2_ f3_; subst f4_; subst f5_))
        obtain ⟨Ao16, co16, eo16⟩ := Kd.R_slice HO411.out
        (first | subst eo16 | (injection eo16 with f1_ f2_ f3_; have f4_ := f1_.symm; have f5_ := f3_.symm; clear f1_ f2_ f3_; subst f4_; subst f5_))
        refine hK.out _ _ ⟨(blk_cell BK407.out 0).trans rfl, (blk_cell BK407.out 1).trans rfl, (blk_cell BK407.out 2).trans rfl, (blk_cell BK407.out 3).trans rfl, (blk_cell BK407.out 4).trans rfl, (blk_cell BK407.out 5).trans rfl⟩ (fun hHeld => ?_)
        clear hK K
        refine norm_ (a' := ?_) ?_ ?_
        rotate_left
        ·show Act.put _ (some 17) _ = _
         simp only [Act.put, List.setIfInBounds_toArray, List.set_cons_zero, List.set_cons_succ, i64_w, i32_w]
         rfl
        refine pureE (i := 8) (N := some 18) #[true, true, true, true, true, true, true, true, true, false, false] HT_.out ?_
        exact norm_ (by first | (simp only [putAll, Act.put, List.setIfInBounds_toArray, List.set_cons_zero, List.set_cons_succ]; done) | (simp only [putAll, Act.put, List.setIfInBounds_toArray, List.set_cons_zero, List.set_cons_succ]; rfl)) (hJ3_7 (.slice Ao16 y409.length co16, .slice Ao15 y412.length co15) _ ⟨hHeld, (by (with_reducible repeat (first | apply Kd.R_alloc | apply Kd.R_drewN | apply Kd.R_drew)); exact Kd.R_mono HO411.out (fun _ hk => hk.2)), (by (with_reducible repeat (first | apply Kd.R_alloc | apply Kd.R_drewN | apply Kd.R_drew)); exact Kd.R_mono HO414.out (fun _ hk => hk.2)), bk, bk, bw⟩)
       ·skip
        refine box_step ?hg (N := 4) ?hd (cs := #[.slice none 0 0, .slice none 0 0]) (t := 60) ?hr ?_; (case hd => rfl); (case hg => rfl); (case hr => first | (go_simp; done) | (go_simp; rfl))
        intro gb415 hg w13 hbox hb
        have n0_ := Aside0.mk (Kd.R_below (by (with_reducible repeat (first | apply Kd.R_alloc | apply Kd.R_drewN | apply Kd.R_drew)); exact HO411.out) hb)
        have n1_ := Aside0.mk (bkb (g := gb407) hb)
        have n2_ := Aside0.mk (bkb (g := gb408) hb)
        have n3_ := Aside0.mk (bstep hb)
        have n4_ := Aside0.mk (hbox)
        have n5_ := Aside0.mk ((by rw [hg]; exact bsz : w.heap.size ≤ gb415))
        have n6_ := Aside0.mk ((by rw [hg]; exact bsz : w.heap.size ≤ gb415))
        have n7_ := Aside0.mk ((by rw [hg]; exact Nat.ne_of_lt (bkl (g := gb407)) : gb407 ≠ gb415))
        have n8_ := Aside0.mk ((by rw [hg]; exact Nat.ne_of_gt (bkl (g := gb407)) : gb415 ≠ gb407))
        have n9_ := Aside0.mk ((by rw [hg]; exact Nat.ne_of_lt (bkl (g := gb408)) : gb408 ≠ gb415))
        have n10_ := Aside0.mk ((by rw [hg]; exact Nat.ne_of_gt (bkl (g := gb408)) : gb415 ≠ gb408))
        clear HO411
        clear BK407
        clear BK408
        clear HB
        have HO411 := n0_
        have BK407 := n1_
        have BK408 := n2_
        have HB := n3_
        have BK415 := n4_
        have GW415 := n5_
        have GE415 := n6_
        have NB407_415 := n7_
        have NB415_407 := n8_
        have NB408_415 := n9_
        have NB415_408 := n10_
        clear n0_ n1_ n2_ n3_ n4_ n5_ n6_ n7_ n8_ n9_ n10_
        clear hb hbox hg
        refine hK.out _ _ ⟨(blk_cell BK407.out 0).trans rfl, (blk_cell BK407.out 1).trans rfl, (blk_cell BK407.out 2).trans rfl, (blk_cell BK407.out 3).trans rfl, (blk_cell BK407.out 4).trans rfl, (blk_cell BK407.out 5).trans rfl⟩ (fun hHeld => ?_)
        clear hK K
        refine norm_ (a' := ?_) ?_ ?_
        rotate_left
        ·show Act.put _ (some 4) _ = _
         simp only [Act.put, List.setIfInBounds_toArray, List.set_cons_zero, List.set_cons_succ, i64_w, i32_w]
         rfl
        exact norm_ (by first | (simp only [putAll, Act.put, List.setIfInBounds_toArray, List.set_cons_zero, List.set_cons_succ]; done) | (simp only [putAll, Act.put, List.setIfInBounds_toArray, List.set_cons_zero, List.set_cons_succ]; rfl)) (hJ3_9 (v410, gb415) _ ⟨hHeld, (by (with_reducible repeat (first | apply Kd.R_alloc | apply Kd.R_drewN | apply Kd.R_drew)); exact HO411.out), bk, bk, bk, GW415.out, GE415.out, NB407_415.out, NB415_407.out, NB408_415.out, NB415_408.out, bw⟩)
     ·skip
      rintro ⟨v413, gb415⟩ w13 ⟨hS_, h0_, h1_, h2_, h3_, h4_, h5_, h6_, h7_, h8_, h9_, h10_⟩
      have n0_ : Aside0 (Kd.R (Kd.int .i64) 3 w13 w.heap.size (fun _ => True) v413 y412) := ⟨h0_⟩
      have n1_ : Aside0 (w13.heap[gb407]? = some (.cells #[.string a0_0, .slice A0_1 l0_1.length c0_1, .slice A0_2 l0_2.length c0_2, .slice A0_3 l0_3.length c0_3, .int .i64 a0_4, .int .i64 a0_5] 26 (0, 0))) := ⟨h1_⟩
      have n2_ : Aside0 (w13.heap[gb408]? = some (.cells #[.slice none 0 0, .slice none 0 0] 60 (0, 0))) := ⟨h2_⟩
      have n3_ : Aside0 (w13.heap[gb415]? = some (.cells #[.slice none 0 0, .slice none 0 0] 60 (0, 0))) := ⟨h3_⟩
      have n4_ : Aside0 (w.heap.size ≤ gb415) := ⟨h4_⟩
      have n5_ : Aside0 (w.heap.size ≤ gb415) := ⟨h5_⟩
      have n6_ : Aside0 (gb407 ≠ gb415) := ⟨h6_⟩
      have n7_ : Aside0 (gb415 ≠ gb407) := ⟨h7_⟩
      have n8_ : Aside0 (gb408 ≠ gb415) := ⟨h8_⟩
      have n9_ : Aside0 (gb415 ≠ gb408) := ⟨h9_⟩
      have n10_ : Aside0 (Below w.heap.size w w13) := ⟨h10_⟩
      clear BK407
      clear BK408
      clear HB
      clear h0_ h1_ h2_ h3_ h4_ h5_ h6_ h7_ h8_ h9_ h10_
      have HO414 := n0_
      have BK407 := n1_
      have BK408 := n2_
      have BK415 := n3_
      have GW415 := n4_
      have GE415 := n5_
      have NB407_415 := n6_
      have NB415_407 := n7_
      have NB408_415 := n8_
      have NB415_408 := n9_
      have HB := n10_
      clear n0_ n1_ n2_ n3_ n4_ n5_ n6_ n7_ n8_ n9_ n10_
      have hHeld : w13.cell? ⟨gb407, 0, none⟩ = some (.string a0_0) ∧ w13.cell? ⟨gb407, 1, none⟩ = some (.slice A0_1 l0_1.length c0_1) ∧ w13.cell? ⟨gb407, 2, none⟩ = some (.slice A0_2 l0_2.length c0_2) ∧ w13.cell? ⟨gb407, 3, none⟩ = some (.slice A0_3 l0_3.length c0_3) ∧ w13.cell? ⟨gb407, 4, none⟩ = some (.int .i64 a0_4) ∧ w13.cell? ⟨gb407, 5, none⟩ = some (.int .i64 a0_5) := hS_
      refine norm_ (a' := ?_) ?_ ?_
      rotate_left
      ·simp only [putAll, Act.put, List.setIfInBounds_toArray, List.set_cons_zero, List.set_cons_succ]
       rfl
      refine one_ (i := 3) (N := some 13) #[true, true, true, true, true, true, true, true, false, true, false] rfl rfl (one_of HT_.out (by kernel_rfl)) (by decide) (fun K hK => ?_)
      refine Kd.R_make_step (Kd.int .i64) _ 3 (by rfl) (N := 13) rfl 29 _ _ rfl ji2 rfl rfl Try.underlying29 (.int .i64 0) 8 info3 rfl (by decide) (by omega) 0 (ok := fun _ => True) (okp := fun _ => True) rfl (fun _ hk => hk) trivial (ofd) (Nat.le_trans (Nat.mul_le_mul_right _ (ofd : ji2.toNat ≤ 35184372088832)) (by omega)) (Below.refl _ _) (Nat.le_refl _) ?_
      intro v410 w14 ho15 hb hg_ hnew_
      clear hg_ hnew_
      (first | rw [← Ny409.out] at ho15 | (simp only [Int.reduceToNat] at ho15; rw [← Ny409.out] at ho15))
      have n0_ := Aside0.mk (Kd.R_elder' (by (with_reducible repeat (first | apply Kd.R_alloc | apply Kd.R_drewN | apply Kd.R_drew)); exact HO414.out) (Kd.R_base ho15) hb)
      have n1_ := Aside0.mk (Kd.R_lower (Kd.R_new' ho15 (Kd.R_lt (by (with_reducible repeat (first | apply Kd.R_alloc | apply Kd.R_drewN | apply Kd.R_drew)); exact HO414.out))) bsz)
      have n2_ := Aside0.mk (bkb (g := gb407) hb)
      have n3_ := Aside0.mk (bkb (g := gb408) hb)
      have n4_ := Aside0.mk (bkb (g := gb415) hb)
      have n5_ := Aside0.mk (bstep hb)
      clear HO414
      clear BK407
      clear BK408
      clear BK415
      clear HB
      have HO414 := n0_
      have HO411 := n1_
      have BK407 := n2_
      have BK408 := n3_
      have BK415 := n4_
      have HB := n5_
      clear n0_ n1_ n2_ n3_ n4_ n5_
      clear hb ho15
      obtain ⟨Ao16, co16, eo16⟩ := Kd.R_slice HO414.out
      (first | subst eo16 | (injection eo16 with f1_ f2_ f3_; have f4_ := f1_.symm; have f5_ := f3_.symm; clear f1_ f2_ f3_; subst f4_; subst f5_))
      obtain ⟨Ao17, co17, eo17⟩ := Kd.R_slice HO411.out
      (first | subst eo17 | (injection eo17 with f1_ f2_ f3_; have f4_ := f1_.symm; have f5_ := f3_.symm; clear f1_ f2_ f3_; subst f4_; subst f5_))
      refine hK.out _ _ ⟨(blk_cell BK407.out 0).trans rfl, (blk_cell BK407.out 1).trans rfl, (blk_cell BK407.out 2).trans rfl, (blk_cell BK407.out 3).trans rfl, (blk_cell BK407.out 4).trans rfl, (blk_cell BK407.out 5).trans rfl⟩ (fun hHeld => ?_)
      clear hK K
      refine norm_ (a' := ?_) ?_ ?_
      rotate_left
      ·show Act.put _ (some 13) _ = _
       simp only [Act.put, List.setIfInBounds_toArray, List.set_cons_zero, List.set_cons_succ, i64_w, i32_w]
       rfl
      refine pureE (i := 8) (N := some 18) #[true, true, true, true, true, true, true, true, true, true, false] HT_.out ?_
      exact norm_ (by first | (simp only [putAll, Act.put, List.setIfInBounds_toArray, List.set_cons_zero, List.set_cons_succ]; done) | (simp only [putAll, Act.put, List.setIfInBounds_toArray, List.set_cons_zero, List.set_cons_succ]; rfl)) (hJ3_7_9 (.slice Ao17 y409.length co17, .slice Ao16 y412.length co16, gb415) _ ⟨hHeld, (by (with_reducible repeat (first | apply Kd.R_alloc | apply Kd.R_drewN | apply Kd.R_drew)); exact Kd.R_mono HO411.out (fun _ hk => hk.2)), (by (with_reducible repeat (first | apply Kd.R_alloc | apply Kd.R_drewN | apply Kd.R_drew)); exact Kd.R_mono HO414.out (fun _ hk => hk.2)), bk, bk, bk, GW415.out, GE415.out, NB407_415.out, NB415_407.out, NB408_415.out, NB415_408.out, bw⟩)
    ·skip
     rintro ⟨v410, gb415⟩ w13 ⟨hS_, h0_, h1_, h2_, h3_, h4_, h5_, h6_, h7_, h8_, h9_, h10_⟩
     have n0_ : Aside0 (Kd.R (Kd.int .i64) 3 w13 w.heap.size (fun _ => True) v410 y409) := ⟨h0_⟩
     have n1_ : Aside0 (w13.heap[gb407]? = some (.cells #[.string a0_0, .slice A0_1 l0_1.length c0_1, .slice A0_2 l0_2.length c0_2, .slice A0_3 l0_3.length c0_3, .int .i64 a0_4, .int .i64 a0_5] 26 (0, 0))) := ⟨h1_⟩
     have n2_ : Aside0 (w13.heap[gb408]? = some (.cells #[.slice none 0 0, .slice none 0 0] 60 (0, 0))) := ⟨h2_⟩
     have n3_ : Aside0 (w13.heap[gb415]? = some (.cells #[.slice none 0 0, .slice none 0 0] 60 (0, 0))) := ⟨h3_⟩
     have n4_ : Aside0 (w.heap.size ≤ gb415) := ⟨h4_⟩
     have n5_ : Aside0 (w.heap.size ≤ gb415) := ⟨h5_⟩
     have n6_ : Aside0 (gb407 ≠ gb415) := ⟨h6_⟩
     have n7_ : Aside0 (gb415 ≠ gb407) := ⟨h7_⟩
     have n8_ : Aside0 (gb408 ≠ gb415) := ⟨h8_⟩
     have n9_ : Aside0 (gb415 ≠ gb408) := ⟨h9_⟩
     have n10_ : Aside0 (Below w.heap.size w w13) := ⟨h10_⟩
     clear BK407
     clear BK408
     clear HB
     clear h0_ h1_ h2_ h3_ h4_ h5_ h6_ h7_ h8_ h9_ h10_
     have HO411 := n0_
     have BK407 := n1_
     have BK408 := n2_
     have BK415 := n3_
     have GW415 := n4_
     have GE415 := n5_
     have NB407_415 := n6_
     have NB415_407 := n7_
     have NB408_415 := n8_
     have NB415_408 := n9_
     have HB := n10_
     clear n0_ n1_ n2_ n3_ n4_ n5_ n6_ n7_ n8_ n9_ n10_
     have hHeld : w13.cell? ⟨gb407, 0, none⟩ = some (.string a0_0) ∧ w13.cell? ⟨gb407, 1, none⟩ = some (.slice A0_1 l0_1.length c0_1) ∧ w13.cell? ⟨gb407, 2, none⟩ = some (.slice A0_2 l0_2.length c0_2) ∧ w13.cell? ⟨gb407, 3, none⟩ = some (.slice A0_3 l0_3.length c0_3) ∧ w13.cell? ⟨gb407, 4, none⟩ = some (.int .i64 a0_4) ∧ w13.cell? ⟨gb407, 5, none⟩ = some (.int .i64 a0_5) := hS_
     refine norm_ (a' := ?_) ?_ ?_
     rotate_left
     ·simp only [putAll, Act.put, List.setIfInBounds_toArray, List.set_cons_zero, List.set_cons_succ]
      rfl
     refine one_ (i := 7) (N := some 17) #[true, true, true, true, true, true, true, true, false, true, false] rfl rfl (one_of HT_.out (by kernel_rfl)) (by decide) (fun K hK => ?_)
     refine Kd.R_make_step (Kd.int .i64) _ 3 (by rfl) (N := 17) rfl 29 _ _ rfl (l0_2.length : Int) rfl rfl Try.underlying29 (.int .i64 0) 8 info3 rfl (by decide) (by omega) 0 (ok := fun _ => True) (okp := fun _ => True) rfl (fun _ hk => hk) trivial (ofd) (Nat.le_trans (Nat.mul_le_mul_right _ (ofd : (l0_2.length : Int).toNat ≤ 35184372088832)) (by omega)) (Below.refl _ _) (Nat.le_refl _) ?_
     intro v413 w14 ho15 hb hg_ hnew_
     clear hg_ hnew_
     (first | rw [← Ny412.out] at ho15 | (simp only [Int.reduceToNat] at ho15; rw [← Ny412.out] at ho15))
     have n0_ := Aside0.mk (Kd.R_elder' (by (with_reducible repeat (first | apply Kd.R_alloc | apply Kd.R_drewN | apply Kd.R_drew)); exact HO411.out) (Kd.R_base ho15) hb)
     have n1_ := Aside0.mk (Kd.R_lower (Kd.R_new' ho15 (Kd.R_lt (by (with_reducible repeat (first | apply Kd.R_alloc | apply Kd.R_drewN | apply Kd.R_drew)); exact HO411.out))) bsz)
     have n2_ := Aside0.mk (bkb (g := gb407) hb)
     have n3_ := Aside0.mk (bkb (g := gb408) hb)
     have n4_ := Aside0.mk (bkb (g := gb415) hb)
     have n5_ := Aside0.mk (bstep hb)
     clear HO411
     clear BK407
     clear BK408
     clear BK415
     clear HB
     have HO411 := n0_
     have HO414 := n1_
     have BK407 := n2_
     have BK408 := n3_
     have BK415 := n4_
     have HB := n5_
     clear n0_ n1_ n2_ n3_ n4_ n5_
     clear hb ho15
     obtain ⟨Ao16, co16, eo16⟩ := Kd.R_slice HO414.out
     (first | subst eo16 | (injection eo16 with f1_ f2_ f3_; have f4_ := f1_.symm; have f5_ := f3_.symm; clear f1_ f2_ f3_; subst f4_; subst f5_))
     obtain ⟨Ao17, co17, eo17⟩ := Kd.R_slice HO411.out
     (first | subst eo17 | (injection eo17 with f1_ f2_ f3_; have f4_ := f1_.symm; have f5_ := f3_.symm; clear f1_ f2_ f3_; subst f4_; subst f5_))
     refine hK.out _ _ ⟨(blk_cell BK407.out 0).trans rfl, (blk_cell BK407.out 1).trans rfl, (blk_cell BK407.out 2).trans rfl, (blk_cell BK407.out 3).trans rfl, (blk_cell BK407.out 4).trans rfl, (blk_cell BK407.out 5).trans rfl⟩ (fun hHeld => ?_)
     clear hK K
     refine norm_ (a' := ?_) ?_ ?_
     rotate_left
     ·show Act.put _ (some 17) _ = _
      simp only [Act.put, List.setIfInBounds_toArray, List.set_cons_zero, List.set_cons_succ, i64_w, i32_w]
      rfl
     refine pureE (i := 8) (N := some 18) #[true, true, true, true, true, true, true, true, true, true, false] HT_.out ?_
     exact norm_ (by first | (simp only [putAll, Act.put, List.setIfInBounds_toArray, List.set_cons_zero, List.set_cons_succ]; done) | (simp only [putAll, Act.put, List.setIfInBounds_toArray, List.set_cons_zero, List.set_cons_succ]; rfl)) (hJ3_7_9 (.slice Ao17 y409.length co17, .slice Ao16 y412.length co16, gb415) _ ⟨hHeld, (by (with_reducible repeat (first | apply Kd.R_alloc | apply Kd.R_drewN | apply Kd.R_drew)); exact Kd.R_mono HO411.out (fun _ hk => hk.2)), (by (with_reducible repeat (first | apply Kd.R_alloc | apply Kd.R_drewN | apply Kd.R_drew)); exact Kd.R_mono HO414.out (fun _ hk => hk.2)), bk, bk, bk, GW415.out, GE415.out, NB407_415.out, NB415_407.out, NB408_415.out, NB415_408.out, bw⟩)
   ·skip
    rintro ⟨v410, v413⟩ w16 ⟨hS_, h0_, h1_, h2_, h3_, h4_⟩
    have n0_ : Aside0 (Kd.R (Kd.int .i64) 3 w16 w.heap.size (fun k_ => some k_ ≠ (v413 : Value).ownBlock) v410 y409) := ⟨h0_⟩
    have n1_ : Aside0 (Kd.R (Kd.int .i64) 3 w16 w.heap.size (fun k_ => some k_ ≠ (v410 : Value).ownBlock) v413 y412) := ⟨h1_⟩
    have n2_ : Aside0 (w16.heap[gb407]? = some (.cells #[.string a0_0, .slice A0_1 l0_1.length c0_1, .slice A0_2 l0_2.length c0_2, .slice A0_3 l0_3.length c0_3, .int .i64 a0_4, .int .i64 a0_5] 26 (0, 0))) := ⟨h2_⟩
    have n3_ : Aside0 (w16.heap[gb408]? = some (.cells #[.slice none 0 0, .slice none 0 0] 60 (0, 0))) := ⟨h3_⟩
    have n4_ : Aside0 (Below w.heap.size w w16) := ⟨h4_⟩
    clear BK407
    clear BK408
    clear HB
    clear h0_ h1_ h2_ h3_ h4_
    have HO411 := n0_
    have HO414 := n1_
    have BK407 := n2_
    have BK408 := n3_
    have HB := n4_
    clear n0_ n1_ n2_ n3_ n4_
    have hHeld : w16.cell? ⟨gb407, 0, none⟩ = some (.string a0_0) ∧ w16.cell? ⟨gb407, 1, none⟩ = some (.slice A0_1 l0_1.length c0_1) ∧ w16.cell? ⟨gb407, 2, none⟩ = some (.slice A0_2 l0_2.length c0_2) ∧ w16.cell? ⟨gb407, 3, none⟩ = some (.slice A0_3 l0_3.length c0_3) ∧ w16.cell? ⟨gb407, 4, none⟩ = some (.int .i64 a0_4) ∧ w16.cell? ⟨gb407, 5, none⟩ = some (.int .i64 a0_5) := hS_
    obtain ⟨Ao17, co17, eo17⟩ := Kd.R_slice HO414.out
    (first | subst eo17 | (injection eo17 with f1_ f2_ f3_; have f4_ := f1_.symm; have f5_ := f3_.symm; clear f1_ f2_ f3_; subst f4_; subst f5_))
    obtain ⟨Ao18, co18, eo18⟩ := Kd.R_slice HO411.out
    (first | subst eo18 | (injection eo18 with f1_ f2_ f3_; have f4_ := f1_.symm; have f5_ := f3_.symm; clear f1_ f2_ f3_; subst f4_; subst f5_))
    refine norm_ (a' := ?_) ?_ ?_
    rotate_left
    ·simp only [putAll, Act.put, List.setIfInBounds_toArray, List.set_cons_zero, List.set_cons_succ]
     rfl
    refine one_ (i := 9) (N := some 4) #[true, true, true, true, true, true, true, true, true, true, false] rfl rfl (one_of HT_.out (by kernel_rfl)) (by decide) (fun K hK => ?_)
    refine box_step ?hg (N := 4) ?hd (cs := #[.slice none 0 0, .slice none 0 0]) (t := 60) ?hr ?_; (case hd => rfl); (case hg => rfl); (case hr => first | (go_simp; done) | (go_simp; rfl))
    intro gb415 hg w19 hbox hb
    have n0_ := Aside0.mk (Kd.R_below (by (with_reducible repeat (first | apply Kd.R_alloc | apply Kd.R_drewN | apply Kd.R_drew)); exact HO411.out) hb)
    have n1_ := Aside0.mk (Kd.R_below (by (with_reducible repeat (first | apply Kd.R_alloc | apply Kd.R_drewN | apply Kd.R_drew)); exact HO414.out) hb)
    have n2_ := Aside0.mk (bkb (g := gb407) hb)
    have n3_ := Aside0.mk (bkb (g := gb408) hb)
    have n4_ := Aside0.mk (bstep hb)
    have n5_ := Aside0.mk (hbox)
    have n6_ := Aside0.mk ((by rw [hg]; exact bsz : w.heap.size ≤ gb415))
    have n7_ := Aside0.mk ((by rw [hg]; exact bsz : w.heap.size ≤ gb415))
    have n8_ := Aside0.mk ((by rw [hg]; exact Nat.ne_of_lt (bkl (g := gb407)) : gb407 ≠ gb415))
    have n9_ := Aside0.mk ((by rw [hg]; exact Nat.ne_of_gt (bkl (g := gb407)) : gb415 ≠ gb407))
    have n10_ := Aside0.mk ((by rw [hg]; exact Nat.ne_of_lt (bkl (g := gb408)) : gb408 ≠ gb415))
    have n11_ := Aside0.mk ((by rw [hg]; exact Nat.ne_of_gt (bkl (g := gb408)) : gb415 ≠ gb408))
    clear HO411
    clear HO414
    clear BK407
    clear BK408
    clear HB
    have HO411 := n0_
    have HO414 := n1_
    have BK407 := n2_
    have BK408 := n3_
    have HB := n4_
    have BK415 := n5_
    have GW415 := n6_
    have GE415 := n7_
    have NB407_415 := n8_
    have NB415_407 := n9_
    have NB408_415 := n10_
    have NB415_408 := n11_
    clear n0_ n1_ n2_ n3_ n4_ n5_ n6_ n7_ n8_ n9_ n10_ n11_
    clear hb hbox hg
    refine hK.out _ _ ⟨(blk_cell BK407.out 0).trans rfl, (blk_cell BK407.out 1).trans rfl, (blk_cell BK407.out 2).trans rfl, (blk_cell BK407.out 3).trans rfl, (blk_cell BK407.out 4).trans rfl, (blk_cell BK407.out 5).trans rfl⟩ (fun hHeld => ?_)
    clear hK K
    refine norm_ (a' := ?_) ?_ ?_
    rotate_left
    ·show Act.put _ (some 4) _ = _
     simp only [Act.put, List.setIfInBounds_toArray, List.set_cons_zero, List.set_cons_succ, i64_w, i32_w]
     rfl
    exact norm_ (by first | (simp only [putAll, Act.put, List.setIfInBounds_toArray, List.set_cons_zero, List.set_cons_succ]; done) | (simp only [putAll, Act.put, List.setIfInBounds_toArray, List.set_cons_zero, List.set_cons_succ]; rfl)) (hJ3_7_9 (.slice Ao18 y409.length co18, .slice Ao17 y412.length co17, gb415) _ ⟨hHeld, (by (with_reducible repeat (first | apply Kd.R_alloc | apply Kd.R_drewN | apply Kd.R_drew)); exact HO411.out), (by (with_reducible repeat (first | apply Kd.R_alloc | apply Kd.R_drewN | apply Kd.R_drew)); exact HO414.out), bk, bk, bk, GW415.out, GE415.out, NB407_415.out, NB415_407.out, NB408_415.out, NB415_408.out, bw⟩)
  rintro ⟨v410, v413, gb415⟩ w17 ⟨hS_, h0_, h1_, h2_, h3_, h4_, h5_, h6_, h7_, h8_, h9_, h10_, h11_⟩
  have n0_ : Aside0 (Kd.R (Kd.int .i64) 3 w17 w.heap.size (fun k_ => some k_ ≠ (v413 : Value).ownBlock) v410 y409) := ⟨h0_⟩
  have n1_ : Aside0 (Kd.R (Kd.int .i64) 3 w17 w.heap.size (fun k_ => some k_ ≠ (v410 : Value).ownBlock) v413 y412) := ⟨h1_⟩
  have n2_ : Aside0 (w17.heap[gb407]? = some (.cells #[.string a0_0, .slice A0_1 l0_1.length c0_1, .slice A0_2 l0_2.length c0_2, .slice A0_3 l0_3.length c0_3, .int .i64 a0_4, .int .i64 a0_5] 26 (0, 0))) := ⟨h2_⟩
  have n3_ : Aside0 (w17.heap[gb408]? = some (.cells #[.slice none 0 0, .slice none 0 0] 60 (0, 0))) := ⟨h3_⟩
  have n4_ : Aside0 (w17.heap[gb415]? = some (.cells #[.slice none 0 0, .slice none 0 0] 60 (0, 0))) := ⟨h4_⟩
  have n5_ : Aside0 (w.heap.size ≤ gb415) := ⟨h5_⟩
  have n6_ : Aside0 (w.heap.size ≤ gb415) := ⟨h6_⟩
  have n7_ : Aside0 (gb407 ≠ gb415) := ⟨h7_⟩
  have n8_ : Aside0 (gb415 ≠ gb407) := ⟨h8_⟩
  have n9_ : Aside0 (gb408 ≠ gb415) := ⟨h9_⟩
  have n10_ : Aside0 (gb415 ≠ gb408) := ⟨h10_⟩
  have n11_ : Aside0 (Below w.heap.size w w17) := ⟨h11_⟩
  clear BK407
  clear BK408
  clear HB
  clear h0_ h1_ h2_ h3_ h4_ h5_ h6_ h7_ h8_ h9_ h10_ h11_
  have HO411 := n0_
  have HO414 := n1_
  have BK407 := n2_
  have BK408 := n3_
  have BK415 := n4_
  have GW415 := n5_
  have GE415 := n6_
  have NB407_415 := n7_
  have NB415_407 := n8_
  have NB408_415 := n9_
  have NB415_408 := n10_
  have HB := n11_
  clear n0_ n1_ n2_ n3_ n4_ n5_ n6_ n7_ n8_ n9_ n10_ n11_
  have hHeld : w17.cell? ⟨gb407, 0, none⟩ = some (.string a0_0) ∧ w17.cell? ⟨gb407, 1, none⟩ = some (.slice A0_1 l0_1.length c0_1) ∧ w17.cell? ⟨gb407, 2, none⟩ = some (.slice A0_2 l0_2.length c0_2) ∧ w17.cell? ⟨gb407, 3, none⟩ = some (.slice A0_3 l0_3.length c0_3) ∧ w17.cell? ⟨gb407, 4, none⟩ = some (.int .i64 a0_4) ∧ w17.cell? ⟨gb407, 5, none⟩ = some (.int .i64 a0_5) := hS_
  obtain ⟨Ao18, co18, eo18⟩ := Kd.R_slice HO414.out
  (first | subst eo18 | (injection eo18 with f1_ f2_ f3_; have f4_ := f1_.symm; have f5_ := f3_.symm; clear f1_ f2_ f3_; subst f4_; subst f5_))
  obtain ⟨Ao19, co19, eo19⟩ := Kd.R_slice HO411.out
  (first | subst eo19 | (injection eo19 with f1_ f2_ f3_; have f4_ := f1_.symm; have f5_ := f3_.symm; clear f1_ f2_ f3_; subst f4_; subst f5_))
  refine norm_ (a' := ?_) ?_ ?_
  rotate_left
  ·simp only [putAll, Act.put, List.setIfInBounds_toArray, List.set_cons_zero, List.set_cons_succ]
   rfl
  refine one_ (i := 10) (N := none) #[true, true, true, true, true, true, true, true, true, true, true] rfl rfl (one_of HT_.out (by kernel_rfl)) (by decide) (fun K hK => ?_)
  have hs20 : w17.cell? ⟨gb415, 0, none⟩ = some (.slice none 0 0) := (blk_cell BK415.out 0).trans rfl
  have hfs20 := blk_frozen BK415.out 0
  have hns20_0 := NB407_415.out
  have hns20_1 := NB408_415.out
  have hms20_0 := NB415_407.out
  have hms20_1 := NB415_408.out
  have hs21 : w17.cell? ⟨gb415, 1, none⟩ = some (.slice none 0 0) := (blk_cell BK415.out 1).trans rfl
  have hfs21 := blk_frozen BK415.out 1
  have hns21_0 := NB407_415.out
  have hns21_1 := NB408_415.out
  have hms21_0 := NB415_407.out
  have hms21_1 := NB415_408.out
  refine skip_ (w1 := ?_) (by rfl) rfl ?_ ?_
  rotate_left
  ·go_simp
   rfl
  refine hK.out _ _ ⟨((cell_far (p := ⟨gb415, _, none⟩) NB407_415.out _).trans (((cell_far (p := ⟨gb415, _, none⟩) NB407_415.out _).trans (hHeld.1)))), ((cell_far (p := ⟨gb415, _, none⟩) NB407_415.out _).trans (((cell_far (p := ⟨gb415, _, none⟩) NB407_415.out _).trans (hHeld.2.1)))), ((cell_far (p := ⟨gb415, _, none⟩) NB407_415.out _).trans (((cell_far (p := ⟨gb415, _, none⟩) NB407_415.out _).trans (hHeld.2.2.1)))), ((cell_far (p := ⟨gb415, _, none⟩) NB407_415.out _).trans (((cell_far (p := ⟨gb415, _, none⟩) NB407_415.out _).trans (hHeld.2.2.2.1)))), ((cell_far (p := ⟨gb415, _, none⟩) NB407_415.out _).trans (((cell_far (p := ⟨gb415, _, none⟩) NB407_415.out _).trans (hHeld.2.2.2.2.1)))), ((cell_far (p := ⟨gb415, _, none⟩) NB407_415.out _).trans (((cell_far (p := ⟨gb415, _, none⟩) NB407_415.out _).trans (hHeld.2.2.2.2.2))))⟩ (fun hHeld => ?_)
  clear hK K
  refine done_ (done_of HT_.out (by kernel_rfl)) ?_
  try go_wp2
  go_loopg [5] k (fun kq v5 w' => ∃ (x5_1 : Int) (x416000_1 : List Int) (x416001_1 : List Int) (u416000 : Value) (u416001 : Value), v5 = .int .i64 x5_1 ∧ Aside0 (bluebellref06_placed.l0 kq x5_1 a0_0 l0_1 l0_2 l0_3 a0_4 a0_5 x416000_1 x416001_1 = some (r1, r2, r3)) ∧ Aside0 (kq ≤ k) ∧ Aside0 (Kd.R (Kd.int .i64) 3 w' w.heap.size (fun k_ => some k_ ≠ (u416001 : Value).ownBlock) u416000 x416000_1) ∧ Aside0 (Kd.R (Kd.int .i64) 3 w' w.heap.size (fun k_ => some k_ ≠ (u416000 : Value).ownBlock) u416001 x416001_1) ∧ Aside0 (w'.heap[gb407]? = some (.cells #[.string a0_0, (.slice A0_1 l0_1.length c0_1), (.slice A0_2 l0_2.length c0_2), (.slice A0_3 l0_3.length c0_3), .int .i64 a0_4, .int .i64 a0_5] 26 (0, 0))) ∧ Aside0 (w'.heap[gb408]? = some (.cells #[(.slice none 0 0), (.slice none 0 0)] 60 (0, 0))) ∧ Aside0 (w'.heap[gb415]? = some (.cells #[u416000, u416001] 60 (0, 0))) ∧ Aside0 (Below w.heap.size w w'))
  case atStart => exact ⟨(0), (y409), (y412), (.slice Ao19 y409.length co19), (.slice Ao18 y412.length co18), wrE, H', ⟨Nat.le_refl _⟩, ⟨by (with_reducible repeat (first | apply Kd.R_alloc | apply Kd.R_drewN | apply Kd.R_drew)); exact Kd.R_mono (Kd.R_far (p := ⟨gb415, 1, none⟩) (Kd.R_far (p := ⟨gb415, 0, none⟩) (Kd.R_types HO411.out BK415.out (by decide)) (fun _ hk => hk.2) (.slice Ao19 y409.length co19)) (fun _ hk => hk.2) (.slice Ao18 y412.length co18)) (fun _ hk => hk.1)⟩, ⟨by (with_reducible repeat (first | apply Kd.R_alloc | apply Kd.R_drewN | apply Kd.R_drew)); exact Kd.R_mono (Kd.R_far (p := ⟨gb415, 1, none⟩) (Kd.R_far (p := ⟨gb415, 0, none⟩) (Kd.R_types HO414.out BK415.out (by decide)) (fun _ hk => hk.2) (.slice Ao19 y409.length co19)) (fun _ hk => hk.2) (.slice Ao18 y412.length co18)) (fun _ hk => hk.1)⟩, ⟨by (with_reducible repeat (first | refine blk_drewN ?_ _ | refine blk_drew ?_ | refine blk_alloc ?_ _)); refine blk_far ?_ NB407_415.out _; (with_reducible repeat (first | refine blk_drewN ?_ _ | refine blk_drew ?_ | refine blk_alloc ?_ _)); refine blk_far ?_ NB407_415.out _; (with_reducible repeat (first | refine blk_drewN ?_ _ | refine blk_drew ?_ | refine blk_alloc ?_ _)); exact BK407.out⟩, ⟨by (with_reducible repeat (first | refine blk_drewN ?_ _ | refine blk_drew ?_ | refine blk_alloc ?_ _)); refine blk_far ?_ NB408_415.out _; (with_reducible repeat (first | refine blk_drewN ?_ _ | refine blk_drew ?_ | refine blk_alloc ?_ _)); refine blk_far ?_ NB408_415.out _; (with_reducible repeat (first | refine blk_drewN ?_ _ | refine blk_drew ?_ | refine blk_alloc ?_ _)); exact BK408.out⟩, ⟨by (with_reducible repeat (first | refine blk_drewN ?_ _ | refine blk_drew ?_ | refine blk_alloc ?_ _)); refine blk_put (cs := #[.slice Ao19 y409.length co19, .slice none 0 0]) ?_ 1 _ rfl; (with_reducible repeat (first | refine blk_drewN ?_ _ | refine blk_drew ?_ | refine blk_alloc ?_ _)); refine blk_put (cs := #[.slice none 0 0, .slice none 0 0]) ?_ 0 _ rfl; (with_reducible repeat (first | refine blk_drewN ?_ _ | refine blk_drew ?_ | refine blk_alloc ?_ _)); exact BK415.out⟩, ⟨bw⟩⟩
  case round =>
   clear H'
   obtain ⟨x5_1, x416000_1, x416001_1, u416000, u416001, rfl, HA, HK1, HO_416000, HO_416001, BK407, BK408, BK415, HB⟩ := hrel
   cases gk with
   | zero => exact absurd HA.out (by simp [bluebellref06_placed.l0])
   | succ k1 =>
    have H := HA.out
    clear HA
    simp only [bluebellref06_placed.l0] at H
    by_cases c22 : x5_1 ≤ a0_5
    ·rw [if_pos c22] at H
     have c22b0 : decide (x5_1 ≤ a0_5) = true := decide_eq_true c22
     clear c22
     by_cases c23 : 0 ≤ x5_1
     rotate_left
     ·rw [if_neg c23] at H
      exact absurd H (by simp)
     rw [if_pos c23] at H
     have c23b0 : decide (0 ≤ x5_1) = true := decide_eq_true c23
     clear c23
     by_cases c24 : x5_1 < (x416000_1.length : Int)
     rotate_left
     ·rw [if_neg c24] at H
      exact absurd H (by simp)
     rw [if_pos c24] at H
     have c24b0 : decide (x5_1 < (x416000_1.length : Int)) = true := decide_eq_true c24
     clear c24
     obtain ⟨y416, hy416⟩ : ∃ y_ : List Int, y_ = (x416000_1.set (x5_1 : Int).toNat (-1)) := ⟨_, rfl⟩
     replace H : (bluebellref06_placed.l0 k1 (wrap64 (x5_1 + 1)) a0_0 l0_1 l0_2 l0_3 a0_4 a0_5 y416 x416001_1) = some (r1, r2, r3) := by first | (rw [hy416]; with_reducible exact H) | (have H2_ := (Option.bind_some _ _).symm.trans H; rw [hy416]; with_reducible exact H2_) | (have H2_ := (Option.bind_some _ _).symm.trans H; with_reducible exact H2_) | with_reducible exact H | (rw [hy416]; exact H) | exact H
     have Ny416 := Aside0.mk hy416
     clear hy416
     have H' := Aside0.mk H
     clear H
     have hnb26 := NB407_408.out
     have hnc26 := NB408_407.out
     have hnb27 := NB407_415.out
     have hnc27 := NB415_407.out
     obtain ⟨z28_0, z28_1, z28_2, z28_3, z28_4, z28_5, y28_0, y28_1, y28_2, y28_3, y28_4, y28_5⟩ := cells6 BK407.out
     have hnb29 := NB415_408.out
     have hnc29 := NB408_415.out
     obtain ⟨z30_0, z30_1, y30_0, y30_1⟩ := cells2 BK415.out
     have p25 : 0 ≤ (x5_1 : Int) := ofd
     have q25 : (x5_1 : Int) < ((x416000_1.length : Int) : Int) := ofd
     obtain ⟨go25, co25, eo25, gb25, gl25, cl25, HG25⟩ := Kd.R_form HO_416000.out (by omega)
     (first | cases eo25 | (injection eo25 with ea_ en_ ec_; (first | subst ea_ | (injection ea_ with ea_; subst ea_)); subst ec_; clear en_))
     have GB25 := Aside0.mk gb25
     have GG25 := Aside0.mk HG25
     clear gb25 gl25 HG25
     obtain ⟨hx25_0, hf25_0⟩ := Kd.R_celln 0 HO_416000.out (x5_1 : Int) p25 q25
     replace p25 := eq_true p25
     replace q25 := eq_true q25
     have HP31 := Kd.R_putg HO_416000.out (x5_1 : Int) (-1)
     go_wp2_with (first | ((with_reducible refine gate_store (t := 3) (p := 28) rfl ?_); refine store_event (t := 3) (p := 28) (v := ?vo_w32) (w1 := (wr.setCell ⟨go25, (x5_1 : Int).toNat, none⟩ (.int .i64 (-1)))) ?hg ?ho ?hn ?hr ?_; (case ho => rfl); (case hg => rfl); (case hn => rfl); (case hr => first | (go_simp; done) | (go_simp; rfl)); intro w32 hw; have hg : wr.grownBy w32 (some go25) := (by rw [hw]; exact HP31.2); have hp_ : Kd.R (Kd.int .i64) 3 w32 w.heap.size (fun k_ => some k_ ≠ (u416001 : Value).ownBlock) (.slice (some ⟨go25, 0, none⟩) x416000_1.length co25) y416 := (by rw [hw, Ny416.out]; exact HP31.1); clear HP31; have n0_ := Aside0.mk (hp_); have n1_ := Aside0.mk (Kd.R_after (v := (.slice (some ⟨go25, 0, none⟩) x416000_1.length co25)) (v1 := (.slice (some ⟨go25, 0, none⟩) x416000_1.length co25)) (ok := (fun _ => True)) (by (with_reducible repeat (first | apply Kd.R_alloc | apply Kd.R_drewN | apply Kd.R_drew)); exact Kd.R_mono HO_416001.out (fun _ hk => ⟨trivial, hk⟩)) hg (.inl rfl)); have n2_ := Aside0.mk (blk_grown (g := gb407) bk hg (Kd.R_ne HO_416000.out BK407.out (by decide))); have n3_ := Aside0.mk (blk_grown (g := gb408) bk hg (Kd.R_ne HO_416000.out BK408.out (by decide))); have n4_ := Aside0.mk (blk_grown (g := gb415) bk hg (Kd.R_ne HO_416000.out BK415.out (by decide))); have n5_ := Aside0.mk ((by rw [hw]; exact below_set (HB.out) GB25.out : Below w.heap.size w w32)); clear HO_416000; clear HO_416001; clear BK407; clear BK408; clear BK415; clear HB; have HO_416000 := n0_; have HO_416001 := n1_; have BK407 := n2_; have BK408 := n3_; have BK415 := n4_; have HB := n5_; clear n0_ n1_ n2_ n3_ n4_ n5_; clear hg hw hp_))
     go_roundg k1
     case measure => have := HK1.out; omega
     case rel => exact ⟨(wrap64 (x5_1 + 1)), (y416), (x416001_1), (.slice (some ⟨go25, 0, none⟩) x416000_1.length co25), (u416001), wrE, H', ⟨by have := HK1.out; omega⟩, ⟨by (with_reducible repeat (first | apply Kd.R_alloc | apply Kd.R_drewN | apply Kd.R_drew)); exact HO_416000.out⟩, ⟨by (with_reducible repeat (first | apply Kd.R_alloc | apply Kd.R_drewN | apply Kd.R_drew)); exact Kd.R_mono HO_416001.out (fun _ hk => hk.2)⟩, ⟨bk⟩, ⟨bk⟩, ⟨bk⟩, ⟨bw⟩⟩
    ·rw [if_neg c22] at H
     have c22b0 : decide (x5_1 ≤ a0_5) = false := decide_eq_false c22
     clear c22
     have H' := Aside0.mk H
     clear H
     have hnb33 := NB407_408.out
     have hnc33 := NB408_407.out
     have hnb34 := NB407_415.out
     have hnc34 := NB415_407.out
     obtain ⟨z35_0, z35_1, z35_2, z35_3, z35_4, z35_5, y35_0, y35_1, y35_2, y35_3, y35_4, y35_5⟩ := cells6 BK407.out
     go_wp2
     go_loopg [6, 7] k1 (fun kq v6 v7 w' => ∃ (x6_2 : Int) (x7_2 : Int) (x416000_2 : List Int) (x416001_2 : List Int) (u416000 : Value) (u416001 : Value), v6 = .int .i64 x6_2 ∧ v7 = .int .i64 x7_2 ∧ Aside0 (bluebellref06_placed.l1 kq x6_2 x7_2 a0_0 l0_1 l0_2 l0_3 a0_4 a0_5 x416000_2 x416001_2 = some (r1, r2, r3)) ∧ Aside0 (kq ≤ k1) ∧ Aside0 (Kd.R (Kd.int .i64) 3 w' w.heap.size (fun k_ => some k_ ≠ (u416001 : Value).ownBlock) u416000 x416000_2) ∧ Aside0 (Kd.R (Kd.int .i64) 3 w' w.heap.size (fun k_ => some k_ ≠ (u416000 : Value).ownBlock) u416001 x416001_2) ∧ Aside0 (w'.heap[gb407]? = some (.cells #[.string a0_0, (.slice A0_1 l0_1.length c0_1), (.slice A0_2 l0_2.length c0_2), (.slice A0_3 l0_3.length c0_3), .int .i64 a0_4, .int .i64 a0_5] 26 (0, 0))) ∧ Aside0 (w'.heap[gb408]? = some (.cells #[(.slice none 0 0), (.slice none 0 0)] 60 (0, 0))) ∧ Aside0 (w'.heap[gb415]? = some (.cells #[u416000, u416001] 60 (0, 0))) ∧ Aside0 (Below w.heap.size w w'))
     case atStart => exact ⟨(0), (0), (x416000_1), (x416001_1), (u416000), (u416001), wrE, wrE, H', ⟨Nat.le_refl _⟩, ⟨by (with_reducible repeat (first | apply Kd.R_alloc | apply Kd.R_drewN | apply Kd.R_drew)); exact HO_416000.out⟩, ⟨by (with_reducible repeat (first | apply Kd.R_alloc | apply Kd.R_drewN | apply Kd.R_drew)); exact HO_416001.out⟩, ⟨bk⟩, ⟨bk⟩, ⟨bk⟩, ⟨bw⟩⟩
     case round =>
      clear H'
      clear c22b0 z35_0 z35_1 z35_2 z35_3 z35_4 z35_5 y35_0 y35_1 y35_2 y35_3 y35_4 y35_5
      obtain ⟨x6_2, x7_2, x416000_2, x416001_2, u416000, u416001, rfl, rfl, HA, HK2, HO_416000, HO_416001, BK407, BK408, BK415, HB⟩ := hrel
      cases gk with
      | zero => exact absurd HA.out (by simp [bluebellref06_placed.l1])
      | succ k2 =>
       have H := HA.out
       clear HA
       simp only [bluebellref06_placed.l1] at H
       by_cases c36 : x7_2 < (l0_2.length : Int)
       ·rw [if_pos c36] at H
        have c36b0 : decide (x7_2 < (l0_2.length : Int)) = true := decide_eq_true c36
        clear c36
        by_cases c37 : 0 ≤ x7_2
        rotate_left
        ·rw [if_neg c37] at H
         exact absurd H (by simp)
        rw [if_pos c37] at H
        have c37b0 : decide (0 ≤ x7_2) = true := decide_eq_true c37
        clear c37
        have HC38 := Aside0.mk H
        clear H
        have hnb39 := NB407_408.out
        have hnc39 := NB408_407.out
        have hnb40 := NB407_415.out
        have hnc40 := NB415_407.out
        obtain ⟨z41_0, z41_1, z41_2, z41_3, z41_4, z41_5, y41_0, y41_1, y41_2, y41_3, y41_4, y41_5⟩ := cells6 BK407.out
        have p417 : 0 ≤ (x7_2 : Int) := ofd
        have q417 : x7_2 < (l0_2.length : Int) := ofd
        obtain ⟨ad417, e417, hx417_0, hx417_1, hx417_2⟩ := at_T35 HR0_2.out x7_2 p417 q417
        cases e417
        replace hx417_0 := hxE HB.out hx417_0
        replace hx417_1 := hxE HB.out hx417_1
        replace hx417_2 := hxE HB.out hx417_2
        replace p417 := eq_true p417
        replace q417 := eq_true q417
        go_upto_if 42 with (fail)
        go_cut [6] (fun v6 wc => ∃ (kq : Nat) (x6_37 : Int), v6 = .int .i64 x6_37 ∧ Aside0 (bluebellref06_placed.j2 kq x6_37 x7_2 a0_0 l0_1 l0_2 l0_3 a0_4 a0_5 x416000_2 x416001_2 = some (r1, r2, r3)) ∧ Aside0 (kq ≤ k2) ∧ Aside0 (Kd.R (Kd.int .i64) 3 wc w.heap.size (fun k_ => some k_ ≠ (u416001 : Value).ownBlock) u416000 x416000_2) ∧ Aside0 (Kd.R (Kd.int .i64) 3 wc w.heap.size (fun k_ => some k_ ≠ (u416000 : Value).ownBlock) u416001 x416001_2) ∧ Aside0 (wc.heap[gb407]? = some (.cells #[.string a0_0, (.slice A0_1 l0_1.length c0_1), (.slice (some ad417) l0_2.length c0_2), (.slice A0_3 l0_3.length c0_3), .int .i64 a0_4, .int .i64 a0_5] 26 (0, 0))) ∧ Aside0 (wc.heap[gb408]? = some (.cells #[(.slice none 0 0), (.slice none 0 0)] 60 (0, 0))) ∧ Aside0 (wc.heap[gb415]? = some (.cells #[u416000, u416001] 60 (0, 0))) ∧ Aside0 (Below w.heap.size w wc))
        case first =>
         have H := HC38.out
         clear HC38
         by_cases c42 : ((rd_T35 l0_2 x7_2).f0) = 24
         ·rw [if_pos c42] at H
          have c42b0 : (((rd_T35 l0_2 x7_2).f0) == 24) = true := beq_iff_eq.mpr c42
          clear c42
          (first | rw [c42b0] | (simp only [i64_w, i32_w]; rw [c42b0]) | skip)
          have H' := Aside0.mk H
          clear H
          go_wp2
          (first | go_meet | (refine Met.intro ?_; go_step; (repeat apply Exists.intro); refine ⟨?rel, ?fr_⟩; (case fr_ => first | (simp only [c42b1, c42b0]; done) | (simp only [c42b1, c42b0]; rfl) | (simp only [c42b1, c42b0]; rfl))))
          case rel => exact ⟨_, (wrap64 (x6_2 + 1)), wrE, H', ⟨by have := HK1.out; have := HK2.out; first | omega | exact Nat.le_refl _⟩, ⟨by (with_reducible repeat (first | apply Kd.R_alloc | apply Kd.R_drewN | apply Kd.R_drew)); exact HO_416000.out⟩, ⟨by (with_reducible repeat (first | apply Kd.R_alloc | apply Kd.R_drewN | apply Kd.R_drew)); exact HO_416001.out⟩, ⟨bk⟩, ⟨bk⟩, ⟨bk⟩, ⟨bw⟩⟩
         ·rw [if_neg c42] at H
          have c42b0 : (((rd_T35 l0_2 x7_2).f0) == 24) = false := beq_eq_false_iff_ne.mpr c42
          (first | rw [c42b0] | (simp only [i64_w, i32_w]; rw [c42b0]) | skip)
          have H' := Aside0.mk H
          clear H
          go_wp2
          (first | go_meet | (refine Met.intro ?_; go_step; (repeat apply Exists.intro); refine ⟨?rel, ?fr_⟩; (case fr_ => first | (simp only [c42b1, c42b0]; done) | (simp only [c42b1, c42b0]; rfl) | (simp only [c42b1, c42b0]; rfl))))
          case rel => exact ⟨_, (x6_2), wrE, H', ⟨by have := HK1.out; have := HK2.out; first | omega | exact Nat.le_refl _⟩, ⟨by (with_reducible repeat (first | apply Kd.R_alloc | apply Kd.R_drewN | apply Kd.R_drew)); exact HO_416000.out⟩, ⟨by (with_reducible repeat (first | apply Kd.R_alloc | apply Kd.R_drewN | apply Kd.R_drew)); exact HO_416001.out⟩, ⟨bk⟩, ⟨bk⟩, ⟨bk⟩, ⟨bw⟩⟩
        case rest =>
         clear HC38
         clear c36b0 c37b0 z41_0 z41_1 z41_2 z41_3 z41_4 z41_5 y41_0 y41_1 y41_2 y41_3 y41_4 y41_5 hx417_0 hx417_1 hx417_2 p417 q417
         obtain ⟨kq, x6_37, rfl, HA, HJ37, HO_416000, HO_416001, BK407, BK408, BK415, HB⟩ := hcut
         cases kq with
         | zero => exact absurd HA.out (by simp [bluebellref06_placed.j2])
         | succ kj37 =>
          have H := HA.out
          clear HA
          simp only [bluebellref06_placed.j2] at H
          by_cases c43 : 0 ≤ x7_2
          rotate_left
          ·rw [if_neg c43] at H
           exact absurd H (by simp)
          rw [if_pos c43] at H
          have c43b0 : decide (0 ≤ x7_2) = true := decide_eq_true c43
          clear c43
          by_cases c44 : x7_2 < (x416001_2.length : Int)
          rotate_left
          ·rw [if_neg c44] at H
           exact absurd H (by simp)
          rw [if_pos c44] at H
          have c44b0 : decide (x7_2 < (x416001_2.length : Int)) = true := decide_eq_true c44
          clear c44
          obtain ⟨y418, hy418⟩ : ∃ y_ : List Int, y_ = (x416001_2.set (x7_2 : Int).toNat x6_37) := ⟨_, rfl⟩
          replace H : (if x7_2 < (l0_2.length : Int) then (if ((rd_T35 l0_2 x7_2).f0) = 19 then (if 0 ≤ ((rd_T35 l0_2 x7_2).f1) then (if ((rd_T35 l0_2 x7_2).f1) < (x416000_2.length : Int) then (if (rd x416000_2 ((rd_T35 l0_2 x7_2).f1)) ≥ 0 then (some (x416000_2, y418, false)) else (bluebellref06_placed.l1 kj37 x6_37 (wrap64 (x7_2 + 1)) a0_0 l0_1 l0_2 l0_3 a0_4 a0_5 (x416000_2.set (((rd_T35 l0_2 x7_2).f1) : Int).toNat x7_2) y418)) else (none)) else (none)) else (bluebellref06_placed.l1 kj37 x6_37 (wrap64 (x7_2 + 1)) a0_0 l0_1 l0_2 l0_3 a0_4 a0_5 x416000_2 y418)) else (none)) = some (r1, r2, r3) := by first | (rw [hy418]; with_reducible exact H) | (have H2_ := (Option.bind_some _ _).symm.trans H; rw [hy418]; with_reducible exact H2_) | (have H2_ := (Option.bind_some _ _).symm.trans H; with_reducible exact H2_) | with_reducible exact H | (rw [hy418]; exact H) | exact H
          have Ny418 := Aside0.mk hy418
          clear hy418
          by_cases c46 : x7_2 < (l0_2.length : Int)
          rotate_left
          ·rw [if_neg c46] at H
           exact absurd H (by simp)
          rw [if_pos c46] at H
          have c46b0 : decide (x7_2 < (l0_2.length : Int)) = true := decide_eq_true c46
          clear c46
          by_cases c47 : ((rd_T35 l0_2 x7_2).f0) = 19
          ·rw [if_pos c47] at H
           have c47b0 : (((rd_T35 l0_2 x7_2).f0) == 19) = true := beq_iff_eq.mpr c47
           clear c47
           by_cases c48 : 0 ≤ ((rd_T35 l0_2 x7_2).f1)
           rotate_left
           ·rw [if_neg c48] at H
            exact absurd H (by simp)
           rw [if_pos c48] at H
           have c48b0 : decide (0 ≤ ((rd_T35 l0_2 x7_2).f1)) = true := decide_eq_true c48
           clear c48
           by_cases c49 : ((rd_T35 l0_2 x7_2).f1) < (x416000_2.length : Int)
           rotate_left
           ·rw [if_neg c49] at H
            exact absurd H (by simp)
           rw [if_pos c49] at H
           have c49b0 : decide (((rd_T35 l0_2 x7_2).f1) < (x416000_2.length : Int)) = true := decide_eq_true c49
           clear c49
           by_cases c50 : (rd x416000_2 ((rd_T35 l0_2 x7_2).f1)) ≥ 0
           ·rw [if_pos c50] at H
            have c50b0 : decide (0 ≤ (rd x416000_2 ((rd_T35 l0_2 x7_2).f1))) = true := decide_eq_true c50
            clear c50
            simp only [Option.some.injEq, Prod.mk.injEq] at H
            obtain ⟨rfl, rfl, rfl⟩ := H
            have hnb51 := NB415_407.out
            have hnc51 := NB407_415.out
            have hnb52 := NB415_408.out
            have hnc52 := NB408_415.out
            obtain ⟨z53_0, z53_1, y53_0, y53_1⟩ := cells2 BK415.out
            have p45 : 0 ≤ (x7_2 : Int) := ofd
            have q45 : (x7_2 : Int) < ((x416001_2.length : Int) : Int) := ofd
            obtain ⟨go45, co45, eo45, gb45, gl45, cl45, HG45⟩ := Kd.R_form HO_416001.out (by omega)
            (first | cases eo45 | (injection eo45 with ea_ en_ ec_; (first | subst ea_ | (injection ea_ with ea_; subst ea_)); subst ec_; clear en_))
            have GB45 := Aside0.mk gb45
            have GG45 := Aside0.mk HG45
            clear gb45 gl45 HG45
            obtain ⟨hx45_0, hf45_0⟩ := Kd.R_celln 0 HO_416001.out (x7_2 : Int) p45 q45
            replace p45 := eq_true p45
            replace q45 := eq_true q45
            have HP54 := Kd.R_putg HO_416001.out (x7_2 : Int) x6_37
            try go_wp2_with (first | ((with_reducible refine gate_store (t := 3) (p := 49) rfl ?_); refine store_event (t := 3) (p := 49) (v := ?vo_w55) (w1 := (wc.setCell ⟨go45, (x7_2 : Int).toNat, none⟩ (.int .i64 x6_37))) ?hg ?ho ?hn ?hr ?_; (case ho => rfl); (case hg => rfl); (case hn => rfl); (case hr => first | (go_simp; done) | (go_simp; rfl)); intro w55 hw; have hg : wc.grownBy w55 (some go45) := (by rw [hw]; exact HP54.2); have hp_ : Kd.R (Kd.int .i64) 3 w55 w.heap.size (fun k_ => some k_ ≠ (u416000 : Value).ownBlock) (.slice (some ⟨go45, 0, none⟩) x416001_2.length co45) y418 := (by rw [hw, Ny418.out]; exact HP54.1); clear HP54; have n0_ := Aside0.mk (Kd.R_after (v := (.slice (some ⟨go45, 0, none⟩) x416001_2.length co45)) (v1 := (.slice (some ⟨go45, 0, none⟩) x416001_2.length co45)) (ok := (fun _ => True)) (by (with_reducible repeat (first | apply Kd.R_alloc | apply Kd.R_drewN | apply Kd.R_drew)); exact Kd.R_mono HO_416000.out (fun _ hk => ⟨trivial, hk⟩)) hg (.inl rfl)); have n1_ := Aside0.mk (hp_); have n2_ := Aside0.mk (blk_grown (g := gb407) bk hg (Kd.R_ne HO_416001.out BK407.out (by decide))); have n3_ := Aside0.mk (blk_grown (g := gb408) bk hg (Kd.R_ne HO_416001.out BK408.out (by decide))); have n4_ := Aside0.mk (blk_grown (g := gb415) bk hg (Kd.R_ne HO_416001.out BK415.out (by decide))); have n5_ := Aside0.mk ((by rw [hw]; exact below_set (HB.out) GB45.out : Below w.heap.size w w55)); clear HO_416000; clear HO_416001; clear BK407; clear BK408; clear BK415; clear HB; have HO_416000 := n0_; have HO_416001 := n1_; have BK407 := n2_; have BK408 := n3_; have BK415 := n4_; have HB := n5_; clear n0_ n1_ n2_ n3_ n4_ n5_; clear hg hw hp_; have hnb56 := NB407_408.out; have hnc56 := NB408_407.out; obtain ⟨z57_0, z57_1, z57_2, z57_3, z57_4, z57_5, y57_0, y57_1, y57_2, y57_3, y57_4, y57_5⟩ := cells6 BK407.out; have p419 : 0 ≤ (x7_2 : Int) := ofd; have q419 : x7_2 < (l0_2.length : Int) := ofd; obtain ⟨ad419, e419, hx419_0, hx419_1, hx419_2⟩ := at_T35 HR0_2.out x7_2 p419 q419; obtain rfl : ad417 = ad419 := (by injection e419); replace hx419_0 := hxE HB.out hx419_0; replace hx419_1 := hxE HB.out hx419_1; replace hx419_2 := hxE HB.out hx419_2; replace p419 := eq_true p419; replace q419 := eq_true q419))
            have n0_ := Aside0.mk (Kd.R_drew HO_416000.out)
            have n1_ := Aside0.mk (Kd.R_drew HO_416001.out)
            have n2_ := Aside0.mk (blk_drew BK407.out)
            have n3_ := Aside0.mk (blk_drew BK408.out)
            have n4_ := Aside0.mk (blk_drew BK415.out)
            have n5_ := Aside0.mk (below_drew1 HB.out)
            clear HO_416000
            clear HO_416001
            clear BK407
            clear BK408
            clear BK415
            clear HB
            have HO_416000 := n0_
            have HO_416001 := n1_
            have BK407 := n2_
            have BK408 := n3_
            have BK415 := n4_
            have HB := n5_
            clear n0_ n1_ n2_ n3_ n4_ n5_
            have p420 : 0 ≤ (x7_2 : Int) := ofd
            have q420 : x7_2 < (l0_2.length : Int) := ofd
            obtain ⟨ad420, e420, hx420_0, hx420_1, hx420_2⟩ := at_T35 HR0_2.out x7_2 p420 q420
            have hw420_2 := hx420_2
            have hw420_1 := hx420_1
            have hw420_0 := hx420_0
            obtain rfl : ad417 = ad420 := (by injection e420)
            replace hx420_0 := hxE HB.out hx420_0
            replace hx420_1 := hxE HB.out hx420_1
            replace hx420_2 := hxE HB.out hx420_2
            replace p420 := eq_true p420
            replace q420 := eq_true q420
            obtain ⟨Ao59, co59, eo59⟩ := Kd.R_slice HO_416000.out
            (first | subst eo59 | (injection eo59 with f1_ f2_ f3_; have f4_ := f1_.symm; have f5_ := f3_.symm; clear f1_ f2_ f3_; subst f4_; subst f5_))
            have p421 : 0 ≤ (((rd_T35 l0_2 x7_2).f1) : Int) := ofd
            have q421 : ((rd_T35 l0_2 x7_2).f1) < (x416000_2.length : Int) := ofd
            obtain ⟨ad421, e421, hx421_0⟩ := Kd.at_int (Kd.R_reads' HO_416000.out).2.2 ((rd_T35 l0_2 x7_2).f1) p421 q421
            cases e421
            replace p421 := eq_true p421
            replace q421 := eq_true q421
            refine start_ (n := 11) (S := fun w' => w'.cell? ⟨gb415, 0, none⟩ = some (.slice (some ad421) x416000_2.length co59) ∧ w'.cell? ⟨gb415, 1, none⟩ = some (.slice (some ⟨go45, 0, none⟩) x416001_2.length co45) ∧ w'.cell? ⟨gb407, 0, none⟩ = some (.string a0_0) ∧ w'.cell? ⟨gb407, 1, none⟩ = some (.slice A0_1 l0_1.length c0_1) ∧ w'.cell? ⟨gb407, 2, none⟩ = some (.slice (some ad417) l0_2.length c0_2) ∧ w'.cell? ⟨gb407, 3, none⟩ = some (.slice A0_3 l0_3.length c0_3) ∧ w'.cell? ⟨gb407, 4, none⟩ = some (.int .i64 a0_4) ∧ w'.cell? ⟨gb407, 5, none⟩ = some (.int .i64 a0_5) ∧ w'.cell? (ad417.add ((x7_2).toNat * 3)) = some (.int .i64 ((rd_T35 l0_2 x7_2).f0)) ∧ w'.cell? ⟨(ad417.add ((x7_2).toNat * 3)).block, (ad417.add ((x7_2).toNat * 3)).off + 1, none⟩ = some (.int .i64 ((rd_T35 l0_2 x7_2).f1)) ∧ w'.cell? ⟨(ad417.add ((x7_2).toNat * 3)).block, (ad417.add ((x7_2).toNat * 3)).off + 2, none⟩ = some (.int .i64 ((rd_T35 l0_2 x7_2).f2)) ∧ w'.cell? (ad421.add (((rd_T35 l0_2 x7_2).f1)).toNat) = some (.int .i64 (rd x416000_2 ((rd_T35 l0_2 x7_2).f1)))) (ds := []) #[false, false, false, false, false, false, false, false, false, false, false] (by kernel_rfl) rfl rfl ⟨(blk_cell BK415.out 0).trans rfl, (blk_cell BK415.out 1).trans rfl, (blk_cell BK407.out 0).trans rfl, (blk_cell BK407.out 1).trans rfl, (blk_cell BK407.out 2).trans rfl, (blk_cell BK407.out 3).trans rfl, (blk_cell BK407.out 4).trans rfl, (blk_cell BK407.out 5).trans rfl, ((HB.out.cell (World.block_lt_of_cell? w _ hw420_0)).trans hw420_0), ((HB.out.cell (World.block_lt_of_cell? w _ hw420_1)).trans hw420_1), ((HB.out.cell (World.block_lt_of_cell? w _ hw420_2)).trans hw420_2), hx421_0⟩ (fun hHeld => ?_); refine with_tabW bluebellref06_placed.tab14 bluebellref06_placed.bits14 (fun HT_ HW_ => ?_)
            generalize w55.drew = w58 at HO_416000 HO_416001 BK407 BK408 BK415 HB hx420_0 hx420_1 hx420_2 hx421_0 hHeld ⊢
            refine pureE (i := 0) (N := some 57) #[true, false, false, false, false, false, false, false, false, false, false] HT_.out ?_
            refine pureE (i := 2) (N := some 59) #[true, false, true, false, false, false, false, false, false, false, false] HT_.out ?_
            refine pureE (i := 4) (N := some 61) #[true, false, true, false, true, false, false, false, false, false, false] HT_.out ?_
            refine take_ (i := 1) (N := some 58) (v := ?_) (a' := ?_) #[true, true, true, false, true, false, false, false, false, false, false] rfl rfl (take_ofW HT_.out HW_.out (by kernel_rfl)) (fun _ _ _ h => h) (Or.inl ⟨by rfl, ?_⟩) hHeld ?_ ?_
            rotate_left
            ·rintro w' ⟨s0, s1, s2, s3, s4, s5, s6, s7, s8, s9, s10, s11⟩
             go_simp
             with_reducible rfl
            rotate_left
            ·simp only [Act.put, List.setIfInBounds_toArray, List.set_cons_zero, List.set_cons_succ, i64_w, i32_w]
             rfl
            refine take_ (i := 3) (N := some 60) (v := ?_) (a' := ?_) #[true, true, true, true, true, false, false, false, false, false, false] rfl rfl (take_ofW HT_.out HW_.out (by kernel_rfl)) (fun _ _ _ h => h) (Or.inl ⟨by rfl, ?_⟩) hHeld ?_ ?_
            rotate_left
            ·rintro w' ⟨s0, s1, s2, s3, s4, s5, s6, s7, s8, s9, s10, s11⟩
             go_simp
             with_reducible rfl
            rotate_left
            ·simp only [Act.put, List.setIfInBounds_toArray, List.set_cons_zero, List.set_cons_succ, i64_w, i32_w]
             rfl
            refine pureE (i := 5) (N := some 62) #[true, true, true, true, true, true, false, false, false, false, false] HT_.out ?_
            refine pureE (i := 6) (N := some 63) #[true, true, true, true, true, true, true, false, false, false, false] HT_.out ?_
            refine take_ (i := 7) (N := some 64) (v := ?_) (a' := ?_) #[true, true, true, true, true, true, true, true, false, false, false] rfl rfl (take_ofW HT_.out HW_.out (by kernel_rfl)) (fun _ _ _ h => h) (Or.inl ⟨by rfl, ?_⟩) hHeld ?_ ?_
            rotate_left
            ·rintro w' ⟨s0, s1, s2, s3, s4, s5, s6, s7, s8, s9, s10, s11⟩
             go_simp
             with_reducible rfl
            rotate_left
            ·simp only [Act.put, List.setIfInBounds_toArray, List.set_cons_zero, List.set_cons_succ, i64_w, i32_w]
             rfl
            refine pureE (i := 8) (N := some 65) #[true, true, true, true, true, true, true, true, true, false, false] HT_.out ?_
            refine take_ (i := 9) (N := some 66) (v := ?_) (a' := ?_) #[true, true, true, true, true, true, true, true, true, true, false] rfl rfl (take_ofW HT_.out HW_.out (by kernel_rfl)) (fun _ _ _ h => h) (Or.inl ⟨by rfl, ?_⟩) hHeld ?_ ?_
            rotate_left
            ·rintro w' ⟨s0, s1, s2, s3, s4, s5, s6, s7, s8, s9, s10, s11⟩
             go_simp
             with_reducible rfl
            rotate_left
            ·simp only [Act.put, List.setIfInBounds_toArray, List.set_cons_zero, List.set_cons_succ, i64_w, i32_w]
             rfl
            refine pureE (i := 10) (N := some 67) #[true, true, true, true, true, true, true, true, true, true, true] HT_.out ?_
            refine done_ (done_of HT_.out (by kernel_rfl)) ?_
            obtain ⟨z60_0, z60_1, y60_0, y60_1⟩ := cells2 BK415.out
            obtain ⟨z61_0, z61_1, y61_0, y61_1⟩ := cells2 BK408.out
            try go_wp2
            refine bodyPost_ret (results_ct rfl _ _ gb408 60 #[.slice (some ad421) x416000_2.length co59, .slice (some ⟨go45, 0, none⟩) x416001_2.length co45] (0, 0) _ rfl (by (with_reducible repeat (first | refine blk_drewN ?_ _ | refine blk_drew ?_ | refine blk_alloc ?_ _)); refine blk_put (cs := #[.slice (some ad421) x416000_2.length co59, .slice none 0 0]) ?_ 1 _ rfl; (with_reducible repeat (first | refine blk_drewN ?_ _ | refine blk_drew ?_ | refine blk_alloc ?_ _)); refine blk_put (cs := #[.slice none 0 0, .slice none 0 0]) ?_ 0 _ rfl; (with_reducible repeat (first | refine blk_drewN ?_ _ | refine blk_drew ?_ | refine blk_alloc ?_ _)); exact BK408.out) Try.underlying60 rfl (by kernel_rfl)) rfl ?_
            exact ⟨_, _, by first | rfl | (simp [errW_none, errW_some] <;> rfl) | (simp only [← hji2]; first | rfl | (simp [errW_none, errW_some] <;> rfl)) | (simp [*, errW_none, errW_some] <;> rfl), by (with_reducible repeat (first | apply Kd.R_alloc | apply Kd.R_drewN | apply Kd.R_drew)); exact Kd.R_mono (Kd.R_far (p := ⟨gb408, 1, none⟩) (Kd.R_far (p := ⟨gb408, 0, none⟩) (Kd.R_types HO_416000.out BK408.out (by decide)) (fun _ hk => hk.2) (.slice (some ad421) x416000_2.length co59)) (fun _ hk => hk.2) (.slice (some ⟨go45, 0, none⟩) x416001_2.length co45)) (fun _ hk => hk.1.2), by (with_reducible repeat (first | apply Kd.R_alloc | apply Kd.R_drewN | apply Kd.R_drew)); exact Kd.R_mono (Kd.R_far (p := ⟨gb408, 1, none⟩) (Kd.R_far (p := ⟨gb408, 0, none⟩) (Kd.R_types HO_416001.out BK408.out (by decide)) (fun _ hk => hk.2) (.slice (some ad421) x416000_2.length co59)) (fun _ hk => hk.2) (.slice (some ⟨go45, 0, none⟩) x416001_2.length co45)) (fun _ hk => hk.1), bw⟩
           ·rw [if_neg c50] at H
            have c50b0 : decide (0 ≤ (rd x416000_2 ((rd_T35 l0_2 x7_2).f1))) = false := decide_eq_false c50
            clear c50
            obtain ⟨y423, hy423⟩ : ∃ y_ : List Int, y_ = (x416000_2.set (((rd_T35 l0_2 x7_2).f1) : Int).toNat x7_2) := ⟨_, rfl⟩
            replace H : (bluebellref06_placed.l1 kj37 x6_37 (wrap64 (x7_2 + 1)) a0_0 l0_1 l0_2 l0_3 a0_4 a0_5 y423 y418) = some (r1, r2, r3) := by first | (rw [hy423]; with_reducible exact H) | (have H2_ := (Option.bind_some _ _).symm.trans H; rw [hy423]; with_reducible exact H2_) | (have H2_ := (Option.bind_some _ _).symm.trans H; with_reducible exact H2_) | with_reducible exact H | (rw [hy423]; exact H) | exact H
            have Ny423 := Aside0.mk hy423
            clear hy423
            have H' := Aside0.mk H
            clear H
            have hnb63 := NB415_407.out
            have hnc63 := NB407_415.out
            have hnb64 := NB415_408.out
            have hnc64 := NB408_415.out
            obtain ⟨z65_0, z65_1, y65_0, y65_1⟩ := cells2 BK415.out
            have p45 : 0 ≤ (x7_2 : Int) := ofd
            have q45 : (x7_2 : Int) < ((x416001_2.length : Int) : Int) := ofd
            obtain ⟨go45, co45, eo45, gb45, gl45, cl45, HG45⟩ := Kd.R_form HO_416001.out (by omega)
            (first | cases eo45 | (injection eo45 with ea_ en_ ec_; (first | subst ea_ | (injection ea_ with ea_; subst ea_)); subst ec_; clear en_))
            have GB45 := Aside0.mk gb45
            have GG45 := Aside0.mk HG45
            clear gb45 gl45 HG45
            obtain ⟨hx45_0, hf45_0⟩ := Kd.R_celln 0 HO_416001.out (x7_2 : Int) p45 q45
            replace p45 := eq_true p45
            replace q45 := eq_true q45
            have HP66 := Kd.R_putg HO_416001.out (x7_2 : Int) x6_37
            try go_wp2_with (first | ((with_reducible refine gate_store (t := 3) (p := 49) rfl ?_); refine store_event (t := 3) (p := 49) (v := ?vo_w67) (w1 := (wc.setCell ⟨go45, (x7_2 : Int).toNat, none⟩ (.int .i64 x6_37))) ?hg ?ho ?hn ?hr ?_; (case ho => rfl); (case hg => rfl); (case hn => rfl); (case hr => first | (go_simp; done) | (go_simp; rfl)); intro w67 hw; have hg : wc.grownBy w67 (some go45) := (by rw [hw]; exact HP66.2); have hp_ : Kd.R (Kd.int .i64) 3 w67 w.heap.size (fun k_ => some k_ ≠ (u416000 : Value).ownBlock) (.slice (some ⟨go45, 0, none⟩) x416001_2.length co45) y418 := (by rw [hw, Ny418.out]; exact HP66.1); clear HP66; have n0_ := Aside0.mk (Kd.R_after (v := (.slice (some ⟨go45, 0, none⟩) x416001_2.length co45)) (v1 := (.slice (some ⟨go45, 0, none⟩) x416001_2.length co45)) (ok := (fun _ => True)) (by (with_reducible repeat (first | apply Kd.R_alloc | apply Kd.R_drewN | apply Kd.R_drew)); exact Kd.R_mono HO_416000.out (fun _ hk => ⟨trivial, hk⟩)) hg (.inl rfl)); have n1_ := Aside0.mk (hp_); have n2_ := Aside0.mk (blk_grown (g := gb407) bk hg (Kd.R_ne HO_416001.out BK407.out (by decide))); have n3_ := Aside0.mk (blk_grown (g := gb408) bk hg (Kd.R_ne HO_416001.out BK408.out (by decide))); have n4_ := Aside0.mk (blk_grown (g := gb415) bk hg (Kd.R_ne HO_416001.out BK415.out (by decide))); have n5_ := Aside0.mk ((by rw [hw]; exact below_set (HB.out) GB45.out : Below w.heap.size w w67)); clear HO_416000; clear HO_416001; clear BK407; clear BK408; clear BK415; clear HB; have HO_416000 := n0_; have HO_416001 := n1_; have BK407 := n2_; have BK408 := n3_; have BK415 := n4_; have HB := n5_; clear n0_ n1_ n2_ n3_ n4_ n5_; clear hg hw hp_; have hnb68 := NB407_408.out; have hnc68 := NB408_407.out; obtain ⟨z69_0, z69_1, z69_2, z69_3, z69_4, z69_5, y69_0, y69_1, y69_2, y69_3, y69_4, y69_5⟩ := cells6 BK407.out; have p419 : 0 ≤ (x7_2 : Int) := ofd; have q419 : x7_2 < (l0_2.length : Int) := ofd; obtain ⟨ad419, e419, hx419_0, hx419_1, hx419_2⟩ := at_T35 HR0_2.out x7_2 p419 q419; obtain rfl : ad417 = ad419 := (by injection e419); replace hx419_0 := hxE HB.out hx419_0; replace hx419_1 := hxE HB.out hx419_1; replace hx419_2 := hxE HB.out hx419_2; replace p419 := eq_true p419; replace q419 := eq_true q419))
            have n0_ := Aside0.mk (Kd.R_drew HO_416000.out)
            have n1_ := Aside0.mk (Kd.R_drew HO_416001.out)
            have n2_ := Aside0.mk (blk_drew BK407.out)
            have n3_ := Aside0.mk (blk_drew BK408.out)
            have n4_ := Aside0.mk (blk_drew BK415.out)
            have n5_ := Aside0.mk (below_drew1 HB.out)
            clear HO_416000
            clear HO_416001
            clear BK407
            clear BK408
            clear BK415
            clear HB
            have HO_416000 := n0_
            have HO_416001 := n1_
            have BK407 := n2_
            have BK408 := n3_
            have BK415 := n4_
            have HB := n5_
            clear n0_ n1_ n2_ n3_ n4_ n5_
            have p420 : 0 ≤ (x7_2 : Int) := ofd
            have q420 : x7_2 < (l0_2.length : Int) := ofd
            obtain ⟨ad420, e420, hx420_0, hx420_1, hx420_2⟩ := at_T35 HR0_2.out x7_2 p420 q420
            have hw420_2 := hx420_2
            have hw420_1 := hx420_1
            have hw420_0 := hx420_0
            obtain rfl : ad417 = ad420 := (by injection e420)
            replace hx420_0 := hxE HB.out hx420_0
            replace hx420_1 := hxE HB.out hx420_1
            replace hx420_2 := hxE HB.out hx420_2
            replace p420 := eq_true p420
            replace q420 := eq_true q420
            obtain ⟨Ao71, co71, eo71⟩ := Kd.R_slice HO_416000.out
            (first | subst eo71 | (injection eo71 with f1_ f2_ f3_; have f4_ := f1_.symm; have f5_ := f3_.symm; clear f1_ f2_ f3_; subst f4_; subst f5_))
            have p421 : 0 ≤ (((rd_T35 l0_2 x7_2).f1) : Int) := ofd
            have q421 : ((rd_T35 l0_2 x7_2).f1) < (x416000_2.length : Int) := ofd
            obtain ⟨ad421, e421, hx421_0⟩ := Kd.at_int (Kd.R_reads' HO_416000.out).2.2 ((rd_T35 l0_2 x7_2).f1) p421 q421
            cases e421
            replace p421 := eq_true p421
            replace q421 := eq_true q421
            refine start_ (n := 11) (S := fun w' => w'.cell? ⟨gb415, 0, none⟩ = some (.slice (some ad421) x416000_2.length co71) ∧ w'.cell? ⟨gb415, 1, none⟩ = some (.slice (some ⟨go45, 0, none⟩) x416001_2.length co45) ∧ w'.cell? ⟨gb407, 0, none⟩ = some (.string a0_0) ∧ w'.cell? ⟨gb407, 1, none⟩ = some (.slice A0_1 l0_1.length c0_1) ∧ w'.cell? ⟨gb407, 2, none⟩ = some (.slice (some ad417) l0_2.length c0_2) ∧ w'.cell? ⟨gb407, 3, none⟩ = some (.slice A0_3 l0_3.length c0_3) ∧ w'.cell? ⟨gb407, 4, none⟩ = some (.int .i64 a0_4) ∧ w'.cell? ⟨gb407, 5, none⟩ = some (.int .i64 a0_5) ∧ w'.cell? (ad417.add ((x7_2).toNat * 3)) = some (.int .i64 ((rd_T35 l0_2 x7_2).f0)) ∧ w'.cell? ⟨(ad417.add ((x7_2).toNat * 3)).block, (ad417.add ((x7_2).toNat * 3)).off + 1, none⟩ = some (.int .i64 ((rd_T35 l0_2 x7_2).f1)) ∧ w'.cell? ⟨(ad417.add ((x7_2).toNat * 3)).block, (ad417.add ((x7_2).toNat * 3)).off + 2, none⟩ = some (.int .i64 ((rd_T35 l0_2 x7_2).f2)) ∧ w'.cell? (ad421.add (((rd_T35 l0_2 x7_2).f1)).toNat) = some (.int .i64 (rd x416000_2 ((rd_T35 l0_2 x7_2).f1)))) (ds := []) #[false, false, false, false, false, false, false, false, false, false, false] (by kernel_rfl) rfl rfl ⟨(blk_cell BK415.out 0).trans rfl, (blk_cell BK415.out 1).trans rfl, (blk_cell BK407.out 0).trans rfl, (blk_cell BK407.out 1).trans rfl, (blk_cell BK407.out 2).trans rfl, (blk_cell BK407.out 3).trans rfl, (blk_cell BK407.out 4).trans rfl, (blk_cell BK407.out 5).trans rfl, ((HB.out.cell (World.block_lt_of_cell? w _ hw420_0)).trans hw420_0), ((HB.out.cell (World.block_lt_of_cell? w _ hw420_1)).trans hw420_1), ((HB.out.cell (World.block_lt_of_cell? w _ hw420_2)).trans hw420_2), hx421_0⟩ (fun hHeld => ?_); refine with_tabW bluebellref06_placed.tab14 bluebellref06_placed.bits14 (fun HT_ HW_ => ?_)
            generalize w67.drew = w70 at HO_416000 HO_416001 BK407 BK408 BK415 HB hx420_0 hx420_1 hx420_2 hx421_0 hHeld ⊢
            refine pureE (i := 0) (N := some 57) #[true, false, false, false, false, false, false, false, false, false, false] HT_.out ?_
            refine pureE (i := 2) (N := some 59) #[true, false, true, false, false, false, false, false, false, false, false] HT_.out ?_
            refine pureE (i := 4) (N := some 61) #[true, false, true, false, true, false, false, false, false, false, false] HT_.out ?_
            refine take_ (i := 1) (N := some 58) (v := ?_) (a' := ?_) #[true, true, true, false, true, false, false, false, false, false, false] rfl rfl (take_ofW HT_.out HW_.out (by kernel_rfl)) (fun _ _ _ h => h) (Or.inl ⟨by rfl, ?_⟩) hHeld ?_ ?_
            rotate_left
            ·rintro w' ⟨s0, s1, s2, s3, s4, s5, s6, s7, s8, s9, s10, s11⟩
             go_simp
             with_reducible rfl
            rotate_left
            ·simp only [Act.put, List.setIfInBounds_toArray, List.set_cons_zero, List.set_cons_succ, i64_w, i32_w]
             rfl
            refine take_ (i := 3) (N := some 60) (v := ?_) (a' := ?_) #[true, true, true, true, true, false, false, false, false, false, false] rfl rfl (take_ofW HT_.out HW_.out (by kernel_rfl)) (fun _ _ _ h => h) (Or.inl ⟨by rfl, ?_⟩) hHeld ?_ ?_
            rotate_left
            ·rintro w' ⟨s0, s1, s2, s3, s4, s5, s6, s7, s8, s9, s10, s11⟩
             go_simp
             with_reducible rfl
            rotate_left
            ·simp only [Act.put, List.setIfInBounds_toArray, List.set_cons_zero, List.set_cons_succ, i64_w, i32_w]
             rfl
            refine pureE (i := 5) (N := some 62) #[true, true, true, true, true, true, false, false, false, false, false] HT_.out ?_
            refine pureE (i := 6) (N := some 63) #[true, true, true, true, true, true, true, false, false, false, false] HT_.out ?_
            refine take_ (i := 7) (N := some 64) (v := ?_) (a' := ?_) #[true, true, true, true, true, true, true, true, false, false, false] rfl rfl (take_ofW HT_.out HW_.out (by kernel_rfl)) (fun _ _ _ h => h) (Or.inl ⟨by rfl, ?_⟩) hHeld ?_ ?_
            rotate_left
            ·rintro w' ⟨s0, s1, s2, s3, s4, s5, s6, s7, s8, s9, s10, s11⟩
             go_simp
             with_reducible rfl
            rotate_left
            ·simp only [Act.put, List.setIfInBounds_toArray, List.set_cons_zero, List.set_cons_succ, i64_w, i32_w]
             rfl
            refine pureE (i := 8) (N := some 65) #[true, true, true, true, true, true, true, true, true, false, false] HT_.out ?_
            refine take_ (i := 9) (N := some 66) (v := ?_) (a' := ?_) #[true, true, true, true, true, true, true, true, true, true, false] rfl rfl (take_ofW HT_.out HW_.out (by kernel_rfl)) (fun _ _ _ h => h) (Or.inl ⟨by rfl, ?_⟩) hHeld ?_ ?_
            rotate_left
            ·rintro w' ⟨s0, s1, s2, s3, s4, s5, s6, s7, s8, s9, s10, s11⟩
             go_simp
             with_reducible rfl
            rotate_left
            ·simp only [Act.put, List.setIfInBounds_toArray, List.set_cons_zero, List.set_cons_succ, i64_w, i32_w]
             rfl
            refine pureE (i := 10) (N := some 67) #[true, true, true, true, true, true, true, true, true, true, true] HT_.out ?_
            refine done_ (done_of HT_.out (by kernel_rfl)) ?_
            try go_wp2
            have n0_ := Aside0.mk (Kd.R_drew HO_416000.out)
            have n1_ := Aside0.mk (Kd.R_drew HO_416001.out)
            have n2_ := Aside0.mk (blk_drew BK407.out)
            have n3_ := Aside0.mk (blk_drew BK408.out)
            have n4_ := Aside0.mk (blk_drew BK415.out)
            have n5_ := Aside0.mk (below_drew1 HB.out)
            clear HO_416000
            clear HO_416001
            clear BK407
            clear BK408
            clear BK415
            clear HB
            have HO_416000 := n0_
            have HO_416001 := n1_
            have BK407 := n2_
            have BK408 := n3_
            have BK415 := n4_
            have HB := n5_
            clear n0_ n1_ n2_ n3_ n4_ n5_
            have p422 : 0 ≤ (x7_2 : Int) := ofd
            have q422 : x7_2 < (l0_2.length : Int) := ofd
            obtain ⟨ad422, e422, hx422_0, hx422_1, hx422_2⟩ := at_T35 HR0_2.out x7_2 p422 q422
            have hw422_2 := hx422_2
            have hw422_1 := hx422_1
            have hw422_0 := hx422_0
            obtain rfl : ad417 = ad422 := (by injection e422)
            replace hx422_0 := hxE HB.out hx422_0
            replace hx422_1 := hxE HB.out hx422_1
            replace hx422_2 := hxE HB.out hx422_2
            replace p422 := eq_true p422
            replace q422 := eq_true q422
            have p62 : 0 ≤ (((rd_T35 l0_2 x7_2).f1) : Int) := ofd
            have q62 : (((rd_T35 l0_2 x7_2).f1) : Int) < ((x416000_2.length : Int) : Int) := ofd
            obtain ⟨go62, co62, eo62, gb62, gl62, cl62, HG62⟩ := Kd.R_form HO_416000.out (by omega)
            (first | cases eo62 | (injection eo62 with ea_ en_ ec_; (first | subst ea_ | (injection ea_ with ea_; subst ea_)); subst ec_; clear en_))
            have GB62 := Aside0.mk gb62
            have GG62 := Aside0.mk HG62
            clear gb62 gl62 HG62
            (first | simp only [add_plain] at hx421_0 | skip)
            obtain ⟨hx62_0, hf62_0⟩ := Kd.R_celln 0 HO_416000.out (((rd_T35 l0_2 x7_2).f1) : Int) p62 q62
            replace p62 := eq_true p62
            replace q62 := eq_true q62
            have HP73 := Kd.R_putn HO_416000.out (((rd_T35 l0_2 x7_2).f1) : Int) x7_2
            rw [← Ny423.out] at HP73
            have HQ73 := Aside0.mk HP73
            clear HP73
            refine start_ (n := 11) (S := fun w' => w'.cell? ⟨gb415, 0, none⟩ = some (.slice (some ⟨go62, 0, none⟩) x416000_2.length co71) ∧ w'.cell? ⟨gb415, 1, none⟩ = some (.slice (some ⟨go45, 0, none⟩) x416001_2.length co45) ∧ w'.cell? ⟨gb407, 0, none⟩ = some (.string a0_0) ∧ w'.cell? ⟨gb407, 1, none⟩ = some (.slice A0_1 l0_1.length c0_1) ∧ w'.cell? ⟨gb407, 2, none⟩ = some (.slice (some ad417) l0_2.length c0_2) ∧ w'.cell? ⟨gb407, 3, none⟩ = some (.slice A0_3 l0_3.length c0_3) ∧ w'.cell? ⟨gb407, 4, none⟩ = some (.int .i64 a0_4) ∧ w'.cell? ⟨gb407, 5, none⟩ = some (.int .i64 a0_5) ∧ w'.cell? (ad417.add ((x7_2).toNat * 3)) = some (.int .i64 ((rd_T35 l0_2 x7_2).f0)) ∧ w'.cell? ⟨(ad417.add ((x7_2).toNat * 3)).block, (ad417.add ((x7_2).toNat * 3)).off + 1, none⟩ = some (.int .i64 ((rd_T35 l0_2 x7_2).f1)) ∧ w'.cell? ⟨(ad417.add ((x7_2).toNat * 3)).block, (ad417.add ((x7_2).toNat * 3)).off + 2, none⟩ = some (.int .i64 ((rd_T35 l0_2 x7_2).f2))) (ds := [10]) #[false, false, false, false, false, false, false, false, false, false, false] (by kernel_rfl) rfl rfl ⟨(blk_cell BK415.out 0).trans rfl, (blk_cell BK415.out 1).trans rfl, (blk_cell BK407.out 0).trans rfl, (blk_cell BK407.out 1).trans rfl, (blk_cell BK407.out 2).trans rfl, (blk_cell BK407.out 3).trans rfl, (blk_cell BK407.out 4).trans rfl, (blk_cell BK407.out 5).trans rfl, ((HB.out.cell (World.block_lt_of_cell? w _ hw422_0)).trans hw422_0), ((HB.out.cell (World.block_lt_of_cell? w _ hw422_1)).trans hw422_1), ((HB.out.cell (World.block_lt_of_cell? w _ hw422_2)).trans hw422_2)⟩ (fun hHeld => ?_); refine with_tabW bluebellref06_placed.tab16 bluebellref06_placed.bits16 (fun HT_ HW_ => ?_)
            generalize w70.drew = w72 at HO_416000 HO_416001 BK407 BK408 BK415 HB GG62 HQ73 hf62_0 hx421_0 hx422_0 hx422_1 hx422_2 hx62_0 hHeld ⊢
            refine pureE (i := 0) (N := some 69) #[true, false, false, false, false, false, false, false, false, false, false] HT_.out ?_
            refine pureE (i := 2) (N := some 71) #[true, false, true, false, false, false, false, false, false, false, false] HT_.out ?_
            refine pureE (i := 4) (N := some 73) #[true, false, true, false, true, false, false, false, false, false, false] HT_.out ?_
            refine pureE (i := 8) (N := some 77) #[true, false, true, false, true, false, false, false, true, false, false] HT_.out ?_
            refine take_ (i := 1) (N := some 70) (v := ?_) (a' := ?_) #[true, true, true, false, true, false, false, false, true, false, false] rfl rfl (take_ofW HT_.out HW_.out (by kernel_rfl)) (fun _ _ _ h => h) (Or.inl ⟨by rfl, ?_⟩) hHeld ?_ ?_
            rotate_left
            ·rintro w' ⟨s0, s1, s2, s3, s4, s5, s6, s7, s8, s9, s10⟩
             go_simp
             with_reducible rfl
            rotate_left
            ·simp only [Act.put, List.setIfInBounds_toArray, List.set_cons_zero, List.set_cons_succ, i64_w, i32_w]
             rfl
            refine take_ (i := 3) (N := some 72) (v := ?_) (a' := ?_) #[true, true, true, true, true, false, false, false, true, false, false] rfl rfl (take_ofW HT_.out HW_.out (by kernel_rfl)) (fun _ _ _ h => h) (Or.inl ⟨by rfl, ?_⟩) hHeld ?_ ?_
            rotate_left
            ·rintro w' ⟨s0, s1, s2, s3, s4, s5, s6, s7, s8, s9, s10⟩
             go_simp
             with_reducible rfl
            rotate_left
            ·simp only [Act.put, List.setIfInBounds_toArray, List.set_cons_zero, List.set_cons_succ, i64_w, i32_w]
             rfl
            refine pureE (i := 5) (N := some 74) #[true, true, true, true, true, true, false, false, true, false, false] HT_.out ?_
            refine pureE (i := 6) (N := some 75) #[true, true, true, true, true, true, true, false, true, false, false] HT_.out ?_
            refine take_ (i := 7) (N := some 76) (v := ?_) (a' := ?_) #[true, true, true, true, true, true, true, true, true, false, false] rfl rfl (take_ofW HT_.out HW_.out (by kernel_rfl)) (fun _ _ _ h => h) (Or.inl ⟨by rfl, ?_⟩) hHeld ?_ ?_
            rotate_left
            ·rintro w' ⟨s0, s1, s2, s3, s4, s5, s6, s7, s8, s9, s10⟩
             go_simp
             with_reducible rfl
            rotate_left
            ·simp only [Act.put, List.setIfInBounds_toArray, List.set_cons_zero, List.set_cons_succ, i64_w, i32_w]
             rfl
            refine pureE (i := 9) (N := some 78) #[true, true, true, true, true, true, true, true, true, true, false] HT_.out ?_
            refine last_ (i := 10) (N := none) #[true, true, true, true, true, true, true, true, true, true, true] rfl rfl (one_of HT_.out (by kernel_rfl)) (by decide) (fun K hK => ?_)
            refine skip_ (w1 := ?_) (by rfl) rfl ?_ ?_
            rotate_left
            ·go_simp
             rfl
            refine hK.out _ _ ?_
            clear hK K
            refine done_ (done_of HT_.out (by kernel_rfl)) ?_
            try go_wp2
            go_roundg kj37
            case measure => have := HK1.out; have := HK2.out; have := HJ37.out; omega
            case rel => exact ⟨(x6_37), (wrap64 (x7_2 + 1)), (y423), (y418), (.slice (some ⟨go62, 0, none⟩) x416000_2.length co71), (.slice (some ⟨go45, 0, none⟩) x416001_2.length co45), wrE, wrE, H', ⟨by have := HK1.out; have := HK2.out; have := HJ37.out; omega⟩, ⟨by (with_reducible repeat (first | apply Kd.R_alloc | apply Kd.R_drewN | apply Kd.R_drew)); exact Kd.R_mono HQ73.out (fun _ hk => hk.2)⟩, ⟨by (with_reducible repeat (first | apply Kd.R_alloc | apply Kd.R_drewN | apply Kd.R_drew)); exact Kd.R_mono (Kd.R_far (p := ⟨go62, (((rd_T35 l0_2 x7_2).f1) : Int).toNat, none⟩) (Kd.R_mono HO_416001.out (fun k_ hk => (⟨hk, fun e_ => hk (by rw [e_]; rfl)⟩ : _ ∧ k_ ≠ go62))) (fun _ hk => hk.2) (.int .i64 x7_2)) (fun _ hk => hk.1)⟩, ⟨by (with_reducible repeat (first | refine blk_drewN ?_ _ | refine blk_drew ?_ | refine blk_alloc ?_ _)); refine blk_far ?_ (by have h_ := Kd.R_ne HO_416000.out BK407.out (by decide); intro e_; exact h_ (by rw [e_]; rfl)) _; (with_reducible repeat (first | refine blk_drewN ?_ _ | refine blk_drew ?_ | refine blk_alloc ?_ _)); exact BK407.out⟩, ⟨by (with_reducible repeat (first | refine blk_drewN ?_ _ | refine blk_drew ?_ | refine blk_alloc ?_ _)); refine blk_far ?_ (by have h_ := Kd.R_ne HO_416000.out BK408.out (by decide); intro e_; exact h_ (by rw [e_]; rfl)) _; (with_reducible repeat (first | refine blk_drewN ?_ _ | refine blk_drew ?_ | refine blk_alloc ?_ _)); exact BK408.out⟩, ⟨by (with_reducible repeat (first | refine blk_drewN ?_ _ | refine blk_drew ?_ | refine blk_alloc ?_ _)); refine blk_far ?_ (by have h_ := Kd.R_ne HO_416000.out BK415.out (by decide); intro e_; exact h_ (by rw [e_]; rfl)) _; (with_reducible repeat (first | refine blk_drewN ?_ _ | refine blk_drew ?_ | refine blk_alloc ?_ _)); exact BK415.out⟩, ⟨bw⟩⟩
          ·rw [if_neg c47] at H
           have c47b0 : (((rd_T35 l0_2 x7_2).f0) == 19) = false := beq_eq_false_iff_ne.mpr c47
           have H' := Aside0.mk H
           clear H
           have hnb74 := NB415_407.out
           have hnc74 := NB407_415.out
           have hnb75 := NB415_408.out
           have hnc75 := NB408_415.out
           obtain ⟨z76_0, z76_1, y76_0, y76_1⟩ := cells2 BK415.out
           have p45 : 0 ≤ (x7_2 : Int) := ofd
           have q45 : (x7_2 : Int) < ((x416001_2.length : Int) : Int) := ofd
           obtain ⟨go45, co45, eo45, gb45, gl45, cl45, HG45⟩ := Kd.R_form HO_416001.out (by omega)
           (first | cases eo45 | (injection eo45 with ea_ en_ ec_; (first | subst ea_ | (injection ea_ with ea_; subst ea_)); subst ec_; clear en_))
           have GB45 := Aside0.mk gb45
           have GG45 := Aside0.mk HG45
           clear gb45 gl45 HG45
           obtain ⟨hx45_0, hf45_0⟩ := Kd.R_celln 0 HO_416001.out (x7_2 : Int) p45 q45
           replace p45 := eq_true p45
           replace q45 := eq_true q45
           have HP77 := Kd.R_putg HO_416001.out (x7_2 : Int) x6_37
           go_wp2_with (first | ((with_reducible refine gate_store (t := 3) (p := 49) rfl ?_); refine store_event (t := 3) (p := 49) (v := ?vo_w78) (w1 := (wc.setCell ⟨go45, (x7_2 : Int).toNat, none⟩ (.int .i64 x6_37))) ?hg ?ho ?hn ?hr ?_; (case ho => rfl); (case hg => rfl); (case hn => rfl); (case hr => first | (go_simp; done) | (go_simp; rfl)); intro w78 hw; have hg : wc.grownBy w78 (some go45) := (by rw [hw]; exact HP77.2); have hp_ : Kd.R (Kd.int .i64) 3 w78 w.heap.size (fun k_ => some k_ ≠ (u416000 : Value).ownBlock) (.slice (some ⟨go45, 0, none⟩) x416001_2.length co45) y418 := (by rw [hw, Ny418.out]; exact HP77.1); clear HP77; have n0_ := Aside0.mk (Kd.R_after (v := (.slice (some ⟨go45, 0, none⟩) x416001_2.length co45)) (v1 := (.slice (some ⟨go45, 0, none⟩) x416001_2.length co45)) (ok := (fun _ => True)) (by (with_reducible repeat (first | apply Kd.R_alloc | apply Kd.R_drewN | apply Kd.R_drew)); exact Kd.R_mono HO_416000.out (fun _ hk => ⟨trivial, hk⟩)) hg (.inl rfl)); have n1_ := Aside0.mk (hp_); have n2_ := Aside0.mk (blk_grown (g := gb407) bk hg (Kd.R_ne HO_416001.out BK407.out (by decide))); have n3_ := Aside0.mk (blk_grown (g := gb408) bk hg (Kd.R_ne HO_416001.out BK408.out (by decide))); have n4_ := Aside0.mk (blk_grown (g := gb415) bk hg (Kd.R_ne HO_416001.out BK415.out (by decide))); have n5_ := Aside0.mk ((by rw [hw]; exact below_set (HB.out) GB45.out : Below w.heap.size w w78)); clear HO_416000; clear HO_416001; clear BK407; clear BK408; clear BK415; clear HB; have HO_416000 := n0_; have HO_416001 := n1_; have BK407 := n2_; have BK408 := n3_; have BK415 := n4_; have HB := n5_; clear n0_ n1_ n2_ n3_ n4_ n5_; clear hg hw hp_; have hnb79 := NB407_408.out; have hnc79 := NB408_407.out; obtain ⟨z80_0, z80_1, z80_2, z80_3, z80_4, z80_5, y80_0, y80_1, y80_2, y80_3, y80_4, y80_5⟩ := cells6 BK407.out; have p419 : 0 ≤ (x7_2 : Int) := ofd; have q419 : x7_2 < (l0_2.length : Int) := ofd; obtain ⟨ad419, e419, hx419_0, hx419_1, hx419_2⟩ := at_T35 HR0_2.out x7_2 p419 q419; obtain rfl : ad417 = ad419 := (by injection e419); replace hx419_0 := hxE HB.out hx419_0; replace hx419_1 := hxE HB.out hx419_1; replace hx419_2 := hxE HB.out hx419_2; replace p419 := eq_true p419; replace q419 := eq_true q419))
           go_roundg kj37
           case measure => have := HK1.out; have := HK2.out; have := HJ37.out; omega
           case rel => exact ⟨(x6_37), (wrap64 (x7_2 + 1)), (x416000_2), (y418), (u416000), (.slice (some ⟨go45, 0, none⟩) x416001_2.length co45), wrE, wrE, H', ⟨by have := HK1.out; have := HK2.out; have := HJ37.out; omega⟩, ⟨by (with_reducible repeat (first | apply Kd.R_alloc | apply Kd.R_drewN | apply Kd.R_drew)); exact Kd.R_mono HO_416000.out (fun _ hk => hk.2)⟩, ⟨by (with_reducible repeat (first | apply Kd.R_alloc | apply Kd.R_drewN | apply Kd.R_drew)); exact HO_416001.out⟩, ⟨bk⟩, ⟨bk⟩, ⟨bk⟩, ⟨bw⟩⟩
       ·rw [if_neg c36] at H
        have c36b0 : decide (x7_2 < (l0_2.length : Int)) = false := decide_eq_false c36
        clear c36
        have H' := Aside0.mk H
        clear H
        have hnb81 := NB407_408.out
        have hnc81 := NB408_407.out
        have hnb82 := NB407_415.out
        have hnc82 := NB415_407.out
        obtain ⟨z83_0, z83_1, z83_2, z83_3, z83_4, z83_5, y83_0, y83_1, y83_2, y83_3, y83_4, y83_5⟩ := cells6 BK407.out
        go_wp2
        go_loopg [8] k2 (fun kq v8 w' => ∃ (x8_3 : Int), v8 = .int .i64 x8_3 ∧ Aside0 (bluebellref06_placed.l2 kq x8_3 a0_0 l0_1 l0_2 l0_3 a0_4 a0_5 x416000_2 x416001_2 = some (r1, r2, r3)) ∧ Aside0 (kq ≤ k2) ∧ Aside0 (Kd.R (Kd.int .i64) 3 w' w.heap.size (fun k_ => some k_ ≠ (u416001 : Value).ownBlock) u416000 x416000_2) ∧ Aside0 (Kd.R (Kd.int .i64) 3 w' w.heap.size (fun k_ => some k_ ≠ (u416000 : Value).ownBlock) u416001 x416001_2) ∧ Aside0 (w'.heap[gb407]? = some (.cells #[.string a0_0, (.slice A0_1 l0_1.length c0_1), (.slice A0_2 l0_2.length c0_2), (.slice A0_3 l0_3.length c0_3), .int .i64 a0_4, .int .i64 a0_5] 26 (0, 0))) ∧ Aside0 (w'.heap[gb408]? = some (.cells #[(.slice none 0 0), (.slice none 0 0)] 60 (0, 0))) ∧ Aside0 (w'.heap[gb415]? = some (.cells #[u416000, u416001] 60 (0, 0))) ∧ Aside0 (Below w.heap.size w w'))
        case atStart => exact ⟨(0), wrE, H', ⟨Nat.le_refl _⟩, ⟨by (with_reducible repeat (first | apply Kd.R_alloc | apply Kd.R_drewN | apply Kd.R_drew)); exact HO_416000.out⟩, ⟨by (with_reducible repeat (first | apply Kd.R_alloc | apply Kd.R_drewN | apply Kd.R_drew)); exact HO_416001.out⟩, ⟨bk⟩, ⟨bk⟩, ⟨bk⟩, ⟨bw⟩⟩
        case round =>
         clear H'
         clear c36b0 z83_0 z83_1 z83_2 z83_3 z83_4 z83_5 y83_0 y83_1 y83_2 y83_3 y83_4 y83_5
         obtain ⟨x8_3, rfl, HA, HK3, HO_416000, HO_416001, BK407, BK408, BK415, HB⟩ := hrel
         cases gk with
         | zero => exact absurd HA.out (by simp [bluebellref06_placed.l2])
         | succ k3 =>
          have H := HA.out
          clear HA
          simp only [bluebellref06_placed.l2] at H
          by_cases c84 : x8_3 < (l0_2.length : Int)
          ·rw [if_pos c84] at H
           have c84b0 : decide (x8_3 < (l0_2.length : Int)) = true := decide_eq_true c84
           clear c84
           by_cases c85 : 0 ≤ x8_3
           rotate_left
           ·rw [if_neg c85] at H
            exact absurd H (by simp)
           rw [if_pos c85] at H
           have c85b0 : decide (0 ≤ x8_3) = true := decide_eq_true c85
           clear c85
           replace H := Option.bind_eq_some_iff.mp H
           obtain ⟨t425, A860, H⟩ := H
           replace H : (if t425 > 0 then (if 0 ≤ t425 then (if t425 < (x416000_2.length : Int) then (if (rd x416000_2 t425) < 0 then (some (x416000_2, x416001_2, false)) else (if 0 ≤ (rd x416000_2 t425) then (if (rd x416000_2 t425) < (x416001_2.length : Int) then (if x8_3 < (x416001_2.length : Int) then (if (rd x416001_2 (rd x416000_2 t425)) = (rd x416001_2 x8_3) then (bluebellref06_placed.l2 k3 (wrap64 (x8_3 + 1)) a0_0 l0_1 l0_2 l0_3 a0_4 a0_5 x416000_2 x416001_2) else (some (x416000_2, x416001_2, false))) else (none)) else (none)) else (none))) else (none)) else (none)) else (bluebellref06_placed.l2 k3 (wrap64 (x8_3 + 1)) a0_0 l0_1 l0_2 l0_3 a0_4 a0_5 x416000_2 x416001_2)) = some (r1, r2, r3) := H
           have A86 := Aside0.mk A860
           clear A860
           by_cases c87 : t425 > 0
           ·rw [if_pos c87] at H
            have c87b0 : decide (0 < t425) = true := decide_eq_true c87
            clear c87
            by_cases c88 : 0 ≤ t425
            rotate_left
            ·rw [if_neg c88] at H
             exact absurd H (by simp)
            rw [if_pos c88] at H
            have c88b0 : decide (0 ≤ t425) = true := decide_eq_true c88
            clear c88
            by_cases c89 : t425 < (x416000_2.length : Int)
            rotate_left
            ·rw [if_neg c89] at H
             exact absurd H (by simp)
            rw [if_pos c89] at H
            have c89b0 : decide (t425 < (x416000_2.length : Int)) = true := decide_eq_true c89
            clear c89
            by_cases c90 : (rd x416000_2 t425) < 0
            ·rw [if_pos c90] at H
             have c90b0 : decide ((rd x416000_2 t425) < 0) = true := decide_eq_true c90
             clear c90
             simp only [Option.some.injEq, Prod.mk.injEq] at H
             obtain ⟨rfl, rfl, rfl⟩ := H
             have hnb91 := NB407_408.out
             have hnc91 := NB408_407.out
             have hnb92 := NB407_415.out
             have hnc92 := NB415_407.out
             obtain ⟨z93_0, z93_1, z93_2, z93_3, z93_4, z93_5, y93_0, y93_1, y93_2, y93_3, y93_4, y93_5⟩ := cells6 BK407.out
             have p424 : 0 ≤ (x8_3 : Int) := ofd
             have q424 : x8_3 < (l0_2.length : Int) := ofd
             obtain ⟨ad424, e424, hx424_0, hx424_1, hx424_2⟩ := at_T35 HR0_2.out x8_3 p424 q424
             cases e424
             replace hx424_0 := hxE HB.out hx424_0
             replace hx424_1 := hxE HB.out hx424_1
             replace hx424_2 := hxE HB.out hx424_2
             replace p424 := eq_true p424
             replace q424 := eq_true q424
             try go_wp2_with (first | ((with_reducible refine gate_callee (f := 15) rfl ?_); refine goesL_ (some 91) rfl rfl Try.func15 (by kernel_rfl) rfl #[.agg #[.int .i64 ((rd_T35 l0_2 x8_3).f0), .int .i64 ((rd_T35 l0_2 x8_3).f1), .int .i64 ((rd_T35 l0_2 x8_3).f2)]] rfl mpE ?_; (with_reducible refine (bluebellref06_Label.calls k3 ((rd_T35 l0_2 x8_3).f0) ((rd_T35 l0_2 x8_3).f1) ((rd_T35 l0_2 x8_3).f2) t425 _ A86.out).mono ?_); rintro e w94 ⟨rfl, hb⟩; refine ⟨_, rfl, ?_⟩; have n0_ := Aside0.mk (Kd.R_below (by (with_reducible repeat (first | apply Kd.R_alloc | apply Kd.R_drewN | apply Kd.R_drew)); exact HO_416000.out) hb); have n1_ := Aside0.mk (Kd.R_below (by (with_reducible repeat (first | apply Kd.R_alloc | apply Kd.R_drewN | apply Kd.R_drew)); exact HO_416001.out) hb); have n2_ := Aside0.mk (bkb (g := gb407) hb); have n3_ := Aside0.mk (bkb (g := gb408) hb); have n4_ := Aside0.mk (bkb (g := gb415) hb); have n5_ := Aside0.mk (bstep hb); clear HO_416000; clear HO_416001; clear BK407; clear BK408; clear BK415; clear HB; have HO_416000 := n0_; have HO_416001 := n1_; have BK407 := n2_; have BK408 := n3_; have BK415 := n4_; have HB := n5_; clear n0_ n1_ n2_ n3_ n4_ n5_; (try clear hb)))
             have n0_ := Aside0.mk (Kd.R_drew HO_416000.out)
             have n1_ := Aside0.mk (Kd.R_drew HO_416001.out)
             have n2_ := Aside0.mk (blk_drew BK407.out)
             have n3_ := Aside0.mk (blk_drew BK408.out)
             have n4_ := Aside0.mk (blk_drew BK415.out)
             have n5_ := Aside0.mk (below_drew1 HB.out)
             clear HO_416000
             clear HO_416001
             clear BK407
             clear BK408
             clear BK415
             clear HB
             have HO_416000 := n0_
             have HO_416001 := n1_
             have BK407 := n2_
             have BK408 := n3_
             have BK415 := n4_
             have HB := n5_
             clear n0_ n1_ n2_ n3_ n4_ n5_
             obtain ⟨Ao96, co96, eo96⟩ := Kd.R_slice HO_416000.out
             (first | subst eo96 | (injection eo96 with f1_ f2_ f3_; have f4_ := f1_.symm; have f5_ := f3_.symm; clear f1_ f2_ f3_; subst f4_; subst f5_))
             have p426 : 0 ≤ (t425 : Int) := ofd
             have q426 : t425 < (x416000_2.length : Int) := ofd
             obtain ⟨ad426, e426, hx426_0⟩ := Kd.at_int (Kd.R_reads' HO_416000.out).2.2 t425 p426 q426
             cases e426
             replace p426 := eq_true p426
             replace q426 := eq_true q426
             refine start_ (n := 27) (S := fun w' => w'.cell? ⟨gb415, 0, none⟩ = some (.slice (some ad426) x416000_2.length co96) ∧ w'.cell? ⟨gb415, 1, none⟩ = some (u416001) ∧ w'.cell? (ad426.add (t425).toNat) = some (.int .i64 (rd x416000_2 t425))) (ds := []) #[false, false, false, false, false, false, false, false, false, false, false, false, false, false, false, false, false, false, false, false, false, false, false, false, false, false, false] (by kernel_rfl) rfl rfl ⟨(blk_cell BK415.out 0).trans rfl, (blk_cell BK415.out 1).trans rfl, hx426_0⟩ (fun hHeld => ?_); refine with_tabW bluebellref06_placed.tab21 bluebellref06_placed.bits21 (fun HT_ HW_ => ?_)
             generalize w94.drew = w95 at HO_416000 HO_416001 BK407 BK408 BK415 HB hx426_0 hHeld ⊢
             refine pureE (i := 0) (N := some 92) #[true, false, false, false, false, false, false, false, false, false, false, false, false, false, false, false, false, false, false, false, false, false, false, false, false, false, false] HT_.out ?_
             refine pureE (i := 1) (N := some 93) #[true, true, false, false, false, false, false, false, false, false, false, false, false, false, false, false, false, false, false, false, false, false, false, false, false, false, false] HT_.out ?_
             refine pureE (i := 2) (N := some 94) #[true, true, true, false, false, false, false, false, false, false, false, false, false, false, false, false, false, false, false, false, false, false, false, false, false, false, false] HT_.out ?_
             refine pureE (i := 3) (N := some 95) #[true, true, true, true, false, false, false, false, false, false, false, false, false, false, false, false, false, false, false, false, false, false, false, false, false, false, false] HT_.out ?_
             refine pureE (i := 5) (N := some 97) #[true, true, true, true, false, true, false, false, false, false, false, false, false, false, false, false, false, false, false, false, false, false, false, false, false, false, false] HT_.out ?_
             refine take_ (i := 4) (N := some 96) (v := ?_) (a' := ?_) #[true, true, true, true, true, true, false, false, false, false, false, false, false, false, false, false, false, false, false, false, false, false, false, false, false, false, false] rfl rfl (take_ofW HT_.out HW_.out (by kernel_rfl)) (fun _ _ _ h => h) (Or.inl ⟨by rfl, ?_⟩) hHeld ?_ ?_
             rotate_left
             ·rintro w' ⟨s0, s1, s2⟩
              go_simp
              with_reducible rfl
             rotate_left
             ·simp only [Act.put, List.setIfInBounds_toArray, List.set_cons_zero, List.set_cons_succ, i64_w, i32_w]
              rfl
             refine pureE (i := 6) (N := some 98) #[true, true, true, true, true, true, true, false, false, false, false, false, false, false, false, false, false, false, false, false, false, false, false, false, false, false, false] HT_.out ?_
             refine take_ (i := 7) (N := some 99) (v := ?_) (a' := ?_) #[true, true, true, true, true, true, true, true, false, false, false, false, false, false, false, false, false, false, false, false, false, false, false, false, false, false, false] rfl rfl (take_ofW HT_.out HW_.out (by kernel_rfl)) (fun _ _ _ h => h) (Or.inl ⟨by rfl, ?_⟩) hHeld ?_ ?_
             rotate_left
             ·rintro w' ⟨s0, s1, s2⟩
              go_simp
              with_reducible rfl
             rotate_left
             ·simp only [Act.put, List.setIfInBounds_toArray, List.set_cons_zero, List.set_cons_succ, i64_w, i32_w]
              rfl
             refine pureE (i := 8) (N := some 100) #[true, true, true, true, true, true, true, true, true, false, false, false, false, false, false, false, false, false, false, false, false, false, false, false, false, false, false] HT_.out ?_
             refine pureE (i := 9) (N := some 101) #[true, true, true, true, true, true, true, true, true, true, false, false, false, false, false, false, false, false, false, false, false, false, false, false, false, false, false] HT_.out ?_
             refine pureU (i := 10) (N := some 102) #[true, true, true, true, true, true, true, true, true, true, true, false, false, false, false, false, false, false, false, false, false, false, false, false, false, false, false] HT_.out ?_
             refine pureU (i := 11) (N := some 103) #[true, true, true, true, true, true, true, true, true, true, true, true, false, false, false, false, false, false, false, false, false, false, false, false, false, false, false] HT_.out ?_
             refine pureU (i := 12) (N := some 104) #[true, true, true, true, true, true, true, true, true, true, true, true, true, false, false, false, false, false, false, false, false, false, false, false, false, false, false] HT_.out ?_
             refine pureU (i := 13) (N := some 105) #[true, true, true, true, true, true, true, true, true, true, true, true, true, true, false, false, false, false, false, false, false, false, false, false, false, false, false] HT_.out ?_
             refine pureU (i := 14) (N := some 106) #[true, true, true, true, true, true, true, true, true, true, true, true, true, true, true, false, false, false, false, false, false, false, false, false, false, false, false] HT_.out ?_
             refine pureU (i := 15) (N := some 107) #[true, true, true, true, true, true, true, true, true, true, true, true, true, true, true, true, false, false, false, false, false, false, false, false, false, false, false] HT_.out ?_
             refine pureU (i := 16) (N := some 108) #[true, true, true, true, true, true, true, true, true, true, true, true, true, true, true, true, true, false, false, false, false, false, false, false, false, false, false] HT_.out ?_
             refine pureU (i := 17) (N := some 109) #[true, true, true, true, true, true, true, true, true, true, true, true, true, true, true, true, true, true, false, false, false, false, false, false, false, false, false] HT_.out ?_
             refine pureU (i := 18) (N := some 110) #[true, true, true, true, true, true, true, true, true, true, true, true, true, true, true, true, true, true, true, false, false, false, false, false, false, false, false] HT_.out ?_
             refine pureU (i := 19) (N := some 111) #[true, true, true, true, true, true, true, true, true, true, true, true, true, true, true, true, true, true, true, true, false, false, false, false, false, false, false] HT_.out ?_
             refine pureU (i := 20) (N := some 112) #[true, true, true, true, true, true, true, true, true, true, true, true, true, true, true, true, true, true, true, true, true, false, false, false, false, false, false] HT_.out ?_
             refine pureU (i := 21) (N := some 113) #[true, true, true, true, true, true, true, true, true, true, true, true, true, true, true, true, true, true, true, true, true, true, false, false, false, false, false] HT_.out ?_
             refine pureU (i := 22) (N := some 114) #[true, true, true, true, true, true, true, true, true, true, true, true, true, true, true, true, true, true, true, true, true, true, true, false, false, false, false] HT_.out ?_
             refine pureU (i := 23) (N := some 115) #[true, true, true, true, true, true, true, true, true, true, true, true, true, true, true, true, true, true, true, true, true, true, true, true, false, false, false] HT_.out ?_
             refine pureU (i := 24) (N := some 116) #[true, true, true, true, true, true, true, true, true, true, true, true, true, true, true, true, true, true, true, true, true, true, true, true, true, false, false] HT_.out ?_
             refine pureE (i := 25) (N := some 117) #[true, true, true, true, true, true, true, true, true, true, true, true, true, true, true, true, true, true, true, true, true, true, true, true, true, true, false] HT_.out ?_
             refine pureE (i := 26) (N := some 118) #[true, true, true, true, true, true, true, true, true, true, true, true, true, true, true, true, true, true, true, true, true, true, true, true, true, true, true] HT_.out ?_
             refine done_ (done_of HT_.out (by kernel_rfl)) ?_
             have hnb97 := NB415_408.out
             have hnc97 := NB408_415.out
             obtain ⟨z98_0, z98_1, y98_0, y98_1⟩ := cells2 BK415.out
             obtain ⟨z99_0, z99_1, y99_0, y99_1⟩ := cells2 BK408.out
             obtain ⟨Ao100, co100, eo100⟩ := Kd.R_slice HO_416001.out
             subst eo100
             try go_wp2
             refine bodyPost_ret (results_ct rfl _ _ gb408 60 #[.slice (some ad426) x416000_2.length co96, .slice Ao100 x416001_2.length co100] (0, 0) _ rfl (by (with_reducible repeat (first | refine blk_drewN ?_ _ | refine blk_drew ?_ | refine blk_alloc ?_ _)); refine blk_put (cs := #[.slice (some ad426) x416000_2.length co96, .slice none 0 0]) ?_ 1 _ rfl; (with_reducible repeat (first | refine blk_drewN ?_ _ | refine blk_drew ?_ | refine blk_alloc ?_ _)); refine blk_put (cs := #[.slice none 0 0, .slice none 0 0]) ?_ 0 _ rfl; (with_reducible repeat (first | refine blk_drewN ?_ _ | refine blk_drew ?_ | refine blk_alloc ?_ _)); exact BK408.out) Try.underlying60 rfl (by kernel_rfl)) rfl ?_
             exact ⟨_, _, by first | rfl | (simp [errW_none, errW_some] <;> rfl) | (simp only [← hji2]; first | rfl | (simp [errW_none, errW_some] <;> rfl)) | (simp [*, errW_none, errW_some] <;> rfl), by (with_reducible repeat (first | apply Kd.R_alloc | apply Kd.R_drewN | apply Kd.R_drew)); exact Kd.R_mono (Kd.R_far (p := ⟨gb408, 1, none⟩) (Kd.R_far (p := ⟨gb408, 0, none⟩) (Kd.R_types HO_416000.out BK408.out (by decide)) (fun _ hk => hk.2) (.slice (some ad426) x416000_2.length co96)) (fun _ hk => hk.2) (.slice Ao100 x416001_2.length co100)) (fun _ hk => hk.1), by (with_reducible repeat (first | apply Kd.R_alloc | apply Kd.R_drewN | apply Kd.R_drew)); exact Kd.R_mono (Kd.R_far (p := ⟨gb408, 1, none⟩) (Kd.R_far (p := ⟨gb408, 0, none⟩) (Kd.R_types HO_416001.out BK408.out (by decide)) (fun _ hk => hk.2) (.slice (some ad426) x416000_2.length co96)) (fun _ hk => hk.2) (.slice Ao100 x416001_2.length co100)) (fun _ hk => hk.1), bw⟩
            ·rw [if_neg c90] at H
             have c90b0 : decide ((rd x416000_2 t425) < 0) = false := decide_eq_false c90
             clear c90
             by_cases c101 : 0 ≤ (rd x416000_2 t425)
             rotate_left
             ·rw [if_neg c101] at H
              exact absurd H (by simp)
             rw [if_pos c101] at H
             have c101b0 : decide (0 ≤ (rd x416000_2 t425)) = true := decide_eq_true c101
             clear c101
             by_cases c102 : (rd x416000_2 t425) < (x416001_2.length : Int)
             rotate_left
             ·rw [if_neg c102] at H
              exact absurd H (by simp)
             rw [if_pos c102] at H
             have c102b0 : decide ((rd x416000_2 t425) < (x416001_2.length : Int)) = true := decide_eq_true c102
             clear c102
             by_cases c103 : x8_3 < (x416001_2.length : Int)
             rotate_left
             ·rw [if_neg c103] at H
              exact absurd H (by simp)
             rw [if_pos c103] at H
             have c103b0 : decide (x8_3 < (x416001_2.length : Int)) = true := decide_eq_true c103
             clear c103
             by_cases c104 : (rd x416001_2 (rd x416000_2 t425)) = (rd x416001_2 x8_3)
             ·rw [if_pos c104] at H
              have c104b0 : ((rd x416001_2 (rd x416000_2 t425)) == (rd x416001_2 x8_3)) = true := beq_iff_eq.mpr c104
              clear c104
              have H' := Aside0.mk H
              clear H
              have hnb105 := NB407_408.out
              have hnc105 := NB408_407.out
              have hnb106 := NB407_415.out
              have hnc106 := NB415_407.out
              obtain ⟨z107_0, z107_1, z107_2, z107_3, z107_4, z107_5, y107_0, y107_1, y107_2, y107_3, y107_4, y107_5⟩ := cells6 BK407.out
              have p424 : 0 ≤ (x8_3 : Int) := ofd
              have q424 : x8_3 < (l0_2.length : Int) := ofd
              obtain ⟨ad424, e424, hx424_0, hx424_1, hx424_2⟩ := at_T35 HR0_2.out x8_3 p424 q424
              cases e424
              replace hx424_0 := hxE HB.out hx424_0
              replace hx424_1 := hxE HB.out hx424_1
              replace hx424_2 := hxE HB.out hx424_2
              replace p424 := eq_true p424
              replace q424 := eq_true q424
              try go_wp2_with (first | ((with_reducible refine gate_callee (f := 15) rfl ?_); refine goesL_ (some 91) rfl rfl Try.func15 (by kernel_rfl) rfl #[.agg #[.int .i64 ((rd_T35 l0_2 x8_3).f0), .int .i64 ((rd_T35 l0_2 x8_3).f1), .int .i64 ((rd_T35 l0_2 x8_3).f2)]] rfl mpE ?_; (with_reducible refine (bluebellref06_Label.calls k3 ((rd_T35 l0_2 x8_3).f0) ((rd_T35 l0_2 x8_3).f1) ((rd_T35 l0_2 x8_3).f2) t425 _ A86.out).mono ?_); rintro e w108 ⟨rfl, hb⟩; refine ⟨_, rfl, ?_⟩; have n0_ := Aside0.mk (Kd.R_below (by (with_reducible repeat (first | apply Kd.R_alloc | apply Kd.R_drewN | apply Kd.R_drew)); exact HO_416000.out) hb); have n1_ := Aside0.mk (Kd.R_below (by (with_reducible repeat (first | apply Kd.R_alloc | apply Kd.R_drewN | apply Kd.R_drew)); exact HO_416001.out) hb); have n2_ := Aside0.mk (bkb (g := gb407) hb); have n3_ := Aside0.mk (bkb (g := gb408) hb); have n4_ := Aside0.mk (bkb (g := gb415) hb); have n5_ := Aside0.mk (bstep hb); clear HO_416000; clear HO_416001; clear BK407; clear BK408; clear BK415; clear HB; have HO_416000 := n0_; have HO_416001 := n1_; have BK407 := n2_; have BK408 := n3_; have BK415 := n4_; have HB := n5_; clear n0_ n1_ n2_ n3_ n4_ n5_; (try clear hb)))
              have n0_ := Aside0.mk (Kd.R_drew HO_416000.out)
              have n1_ := Aside0.mk (Kd.R_drew HO_416001.out)
              have n2_ := Aside0.mk (blk_drew BK407.out)
              have n3_ := Aside0.mk (blk_drew BK408.out)
              have n4_ := Aside0.mk (blk_drew BK415.out)
              have n5_ := Aside0.mk (below_drew1 HB.out)
              clear HO_416000
              clear HO_416001
              clear BK407
              clear BK408
              clear BK415
              clear HB
              have HO_416000 := n0_
              have HO_416001 := n1_
              have BK407 := n2_
              have BK408 := n3_
              have BK415 := n4_
              have HB := n5_
              clear n0_ n1_ n2_ n3_ n4_ n5_
              obtain ⟨Ao110, co110, eo110⟩ := Kd.R_slice HO_416000.out
              (first | subst eo110 | (injection eo110 with f1_ f2_ f3_; have f4_ := f1_.symm; have f5_ := f3_.symm; clear f1_ f2_ f3_; subst f4_; subst f5_))
              have p426 : 0 ≤ (t425 : Int) := ofd
              have q426 : t425 < (x416000_2.length : Int) := ofd
              obtain ⟨ad426, e426, hx426_0⟩ := Kd.at_int (Kd.R_reads' HO_416000.out).2.2 t425 p426 q426
              cases e426
              replace p426 := eq_true p426
              replace q426 := eq_true q426
              have p427 : 0 ≤ (t425 : Int) := ofd
              have q427 : t425 < (x416000_2.length : Int) := ofd
              obtain ⟨ad427, e427, hx427_0⟩ := Kd.at_int (Kd.R_reads' HO_416000.out).2.2 t425 p427 q427
              obtain rfl : ad426 = ad427 := (by injection e427)
              replace p427 := eq_true p427
              replace q427 := eq_true q427
              obtain ⟨Ao111, co111, eo111⟩ := Kd.R_slice HO_416001.out
              (first | subst eo111 | (injection eo111 with f1_ f2_ f3_; have f4_ := f1_.symm; have f5_ := f3_.symm; clear f1_ f2_ f3_; subst f4_; subst f5_))
              have p428 : 0 ≤ ((rd x416000_2 t425) : Int) := ofd
              have q428 : (rd x416000_2 t425) < (x416001_2.length : Int) := ofd
              obtain ⟨ad428, e428, hx428_0⟩ := Kd.at_int (Kd.R_reads' HO_416001.out).2.2 (rd x416000_2 t425) p428 q428
              cases e428
              replace p428 := eq_true p428
              replace q428 := eq_true q428
              have p429 : 0 ≤ (x8_3 : Int) := ofd
              have q429 : x8_3 < (x416001_2.length : Int) := ofd
              obtain ⟨ad429, e429, hx429_0⟩ := Kd.at_int (Kd.R_reads' HO_416001.out).2.2 x8_3 p429 q429
              obtain rfl : ad428 = ad429 := (by injection e429)
              replace p429 := eq_true p429
              replace q429 := eq_true q429
              refine start_ (n := 27) (S := fun w' => w'.cell? ⟨gb415, 0, none⟩ = some (.slice (some ad426) x416000_2.length co110) ∧ w'.cell? ⟨gb415, 1, none⟩ = some (.slice (some ad428) x416001_2.length co111) ∧ w'.cell? (ad426.add (t425).toNat) = some (.int .i64 (rd x416000_2 t425)) ∧ w'.cell? (ad426.add (t425).toNat) = some (.int .i64 (rd x416000_2 t425)) ∧ w'.cell? (ad428.add ((rd x416000_2 t425)).toNat) = some (.int .i64 (rd x416001_2 (rd x416000_2 t425))) ∧ w'.cell? (ad428.add (x8_3).toNat) = some (.int .i64 (rd x416001_2 x8_3))) (ds := []) #[false, false, false, false, false, false, false, false, false, false, false, false, false, false, false, false, false, false, false, false, false, false, false, false, false, false, false] (by kernel_rfl) rfl rfl ⟨(blk_cell BK415.out 0).trans rfl, (blk_cell BK415.out 1).trans rfl, hx426_0, hx427_0, hx428_0, hx429_0⟩ (fun hHeld => ?_); refine with_tabW bluebellref06_placed.tab21 bluebellref06_placed.bits21 (fun HT_ HW_ => ?_)
              generalize w108.drew = w109 at HO_416000 HO_416001 BK407 BK408 BK415 HB hx426_0 hx427_0 hx428_0 hx429_0 hHeld ⊢
              refine pureE (i := 0) (N := some 92) #[true, false, false, false, false, false, false, false, false, false, false, false, false, false, false, false, false, false, false, false, false, false, false, false, false, false, false] HT_.out ?_
              refine pureE (i := 1) (N := some 93) #[true, true, false, false, false, false, false, false, false, false, false, false, false, false, false, false, false, false, false, false, false, false, false, false, false, false, false] HT_.out ?_
              refine pureE (i := 2) (N := some 94) #[true, true, true, false, false, false, false, false, false, false, false, false, false, false, false, false, false, false, false, false, false, false, false, false, false, false, false] HT_.out ?_
              refine pureE (i := 3) (N := some 95) #[true, true, true, true, false, false, false, false, false, false, false, false, false, false, false, false, false, false, false, false, false, false, false, false, false, false, false] HT_.out ?_
              refine pureE (i := 5) (N := some 97) #[true, true, true, true, false, true, false, false, false, false, false, false, false, false, false, false, false, false, false, false, false, false, false, false, false, false, false] HT_.out ?_
              refine take_ (i := 4) (N := some 96) (v := ?_) (a' := ?_) #[true, true, true, true, true, true, false, false, false, false, false, false, false, false, false, false, false, false, false, false, false, false, false, false, false, false, false] rfl rfl (take_ofW HT_.out HW_.out (by kernel_rfl)) (fun _ _ _ h => h) (Or.inl ⟨by rfl, ?_⟩) hHeld ?_ ?_
              rotate_left
              ·rintro w' ⟨s0, s1, s2, s3, s4, s5⟩
               go_simp
               with_reducible rfl
              rotate_left
              ·simp only [Act.put, List.setIfInBounds_toArray, List.set_cons_zero, List.set_cons_succ, i64_w, i32_w]
               rfl
              refine pureE (i := 6) (N := some 98) #[true, true, true, true, true, true, true, false, false, false, false, false, false, false, false, false, false, false, false, false, false, false, false, false, false, false, false] HT_.out ?_
              refine take_ (i := 7) (N := some 99) (v := ?_) (a' := ?_) #[true, true, true, true, true, true, true, true, false, false, false, false, false, false, false, false, false, false, false, false, false, false, false, false, false, false, false] rfl rfl (take_ofW HT_.out HW_.out (by kernel_rfl)) (fun _ _ _ h => h) (Or.inl ⟨by rfl, ?_⟩) hHeld ?_ ?_
              rotate_left
              ·rintro w' ⟨s0, s1, s2, s3, s4, s5⟩
               go_simp
               with_reducible rfl
              rotate_left
              ·simp only [Act.put, List.setIfInBounds_toArray, List.set_cons_zero, List.set_cons_succ, i64_w, i32_w]
               rfl
              refine pureE (i := 8) (N := some 100) #[true, true, true, true, true, true, true, true, true, false, false, false, false, false, false, false, false, false, false, false, false, false, false, false, false, false, false] HT_.out ?_
              refine pureE (i := 9) (N := some 101) #[true, true, true, true, true, true, true, true, true, true, false, false, false, false, false, false, false, false, false, false, false, false, false, false, false, false, false] HT_.out ?_
              refine pureE (i := 10) (N := some 102) #[true, true, true, true, true, true, true, true, true, true, true, false, false, false, false, false, false, false, false, false, false, false, false, false, false, false, false] HT_.out ?_
              refine pureE (i := 12) (N := some 104) #[true, true, true, true, true, true, true, true, true, true, true, false, true, false, false, false, false, false, false, false, false, false, false, false, false, false, false] HT_.out ?_
              refine pureE (i := 14) (N := some 106) #[true, true, true, true, true, true, true, true, true, true, true, false, true, false, true, false, false, false, false, false, false, false, false, false, false, false, false] HT_.out ?_
              refine pureE (i := 19) (N := some 111) #[true, true, true, true, true, true, true, true, true, true, true, false, true, false, true, false, false, false, false, true, false, false, false, false, false, false, false] HT_.out ?_
              refine pureE (i := 21) (N := some 113) #[true, true, true, true, true, true, true, true, true, true, true, false, true, false, true, false, false, false, false, true, false, true, false, false, false, false, false] HT_.out ?_
              refine take_ (i := 11) (N := some 103) (v := ?_) (a' := ?_) #[true, true, true, true, true, true, true, true, true, true, true, true, true, false, true, false, false, false, false, true, false, true, false, false, false, false, false] rfl rfl (take_ofW HT_.out HW_.out (by kernel_rfl)) (fun _ _ _ h => h) (Or.inl ⟨by rfl, ?_⟩) hHeld ?_ ?_
              rotate_left
              ·rintro w' ⟨s0, s1, s2, s3, s4, s5⟩
               go_simp
               with_reducible rfl
              rotate_left
              ·simp only [Act.put, List.setIfInBounds_toArray, List.set_cons_zero, List.set_cons_succ, i64_w, i32_w]
               rfl
              refine take_ (i := 13) (N := some 105) (v := ?_) (a' := ?_) #[true, true, true, true, true, true, true, true, true, true, true, true, true, true, true, false, false, false, false, true, false, true, false, false, false, false, false] rfl rfl (take_ofW HT_.out HW_.out (by kernel_rfl)) (fun _ _ _ h => h) (Or.inl ⟨by rfl, ?_⟩) hHeld ?_ ?_
              rotate_left
              ·rintro w' ⟨s0, s1, s2, s3, s4, s5⟩
               go_simp
               with_reducible rfl
              rotate_left
              ·simp only [Act.put, List.setIfInBounds_toArray, List.set_cons_zero, List.set_cons_succ, i64_w, i32_w]
               rfl
              refine pureE (i := 15) (N := some 107) #[true, true, true, true, true, true, true, true, true, true, true, true, true, true, true, true, false, false, false, true, false, true, false, false, false, false, false] HT_.out ?_
              refine take_ (i := 16) (N := some 108) (v := ?_) (a' := ?_) #[true, true, true, true, true, true, true, true, true, true, true, true, true, true, true, true, true, false, false, true, false, true, false, false, false, false, false] rfl rfl (take_ofW HT_.out HW_.out (by kernel_rfl)) (fun _ _ _ h => h) (Or.inl ⟨by rfl, ?_⟩) hHeld ?_ ?_
              rotate_left
              ·rintro w' ⟨s0, s1, s2, s3, s4, s5⟩
               go_simp
               with_reducible rfl
              rotate_left
              ·simp only [Act.put, List.setIfInBounds_toArray, List.set_cons_zero, List.set_cons_succ, i64_w, i32_w]
               rfl
              refine pureE (i := 17) (N := some 109) #[true, true, true, true, true, true, true, true, true, true, true, true, true, true, true, true, true, true, false, true, false, true, false, false, false, false, false] HT_.out ?_
              refine take_ (i := 18) (N := some 110) (v := ?_) (a' := ?_) #[true, true, true, true, true, true, true, true, true, true, true, true, true, true, true, true, true, true, true, true, false, true, false, false, false, false, false] rfl rfl (take_ofW HT_.out HW_.out (by kernel_rfl)) (fun _ _ _ h => h) (Or.inl ⟨by rfl, ?_⟩) hHeld ?_ ?_
              rotate_left
              ·rintro w' ⟨s0, s1, s2, s3, s4, s5⟩
               go_simp
               with_reducible rfl
              rotate_left
              ·simp only [Act.put, List.setIfInBounds_toArray, List.set_cons_zero, List.set_cons_succ, i64_w, i32_w]
               rfl
              refine take_ (i := 20) (N := some 112) (v := ?_) (a' := ?_) #[true, true, true, true, true, true, true, true, true, true, true, true, true, true, true, true, true, true, true, true, true, true, false, false, false, false, false] rfl rfl (take_ofW HT_.out HW_.out (by kernel_rfl)) (fun _ _ _ h => h) (Or.inl ⟨by rfl, ?_⟩) hHeld ?_ ?_
              rotate_left
              ·rintro w' ⟨s0, s1, s2, s3, s4, s5⟩
               go_simp
               with_reducible rfl
              rotate_left
              ·simp only [Act.put, List.setIfInBounds_toArray, List.set_cons_zero, List.set_cons_succ, i64_w, i32_w]
               rfl
              refine pureE (i := 22) (N := some 114) #[true, true, true, true, true, true, true, true, true, true, true, true, true, true, true, true, true, true, true, true, true, true, true, false, false, false, false] HT_.out ?_
              refine take_ (i := 23) (N := some 115) (v := ?_) (a' := ?_) #[true, true, true, true, true, true, true, true, true, true, true, true, true, true, true, true, true, true, true, true, true, true, true, true, false, false, false] rfl rfl (take_ofW HT_.out HW_.out (by kernel_rfl)) (fun _ _ _ h => h) (Or.inl ⟨by rfl, ?_⟩) hHeld ?_ ?_
              rotate_left
              ·rintro w' ⟨s0, s1, s2, s3, s4, s5⟩
               go_simp
               with_reducible rfl
              rotate_left
              ·simp only [Act.put, List.setIfInBounds_toArray, List.set_cons_zero, List.set_cons_succ, i64_w, i32_w]
               rfl
              refine pureE (i := 24) (N := some 116) #[true, true, true, true, true, true, true, true, true, true, true, true, true, true, true, true, true, true, true, true, true, true, true, true, true, false, false] HT_.out ?_
              refine pureE (i := 25) (N := some 117) #[true, true, true, true, true, true, true, true, true, true, true, true, true, true, true, true, true, true, true, true, true, true, true, true, true, true, false] HT_.out ?_
              refine pureE (i := 26) (N := some 118) #[true, true, true, true, true, true, true, true, true, true, true, true, true, true, true, true, true, true, true, true, true, true, true, true, true, true, true] HT_.out ?_
              refine done_ (done_of HT_.out (by kernel_rfl)) ?_
              try go_wp2
              go_roundg k3
              case measure => have := HK1.out; have := HK2.out; have := HK3.out; omega
              case rel => exact ⟨(wrap64 (x8_3 + 1)), wrE, H', ⟨by have := HK1.out; have := HK2.out; have := HK3.out; omega⟩, ⟨by (with_reducible repeat (first | apply Kd.R_alloc | apply Kd.R_drewN | apply Kd.R_drew)); exact HO_416000.out⟩, ⟨by (with_reducible repeat (first | apply Kd.R_alloc | apply Kd.R_drewN | apply Kd.R_drew)); exact HO_416001.out⟩, ⟨bk⟩, ⟨bk⟩, ⟨bk⟩, ⟨bw⟩⟩
             ·rw [if_neg c104] at H
              have c104b0 : ((rd x416001_2 (rd x416000_2 t425)) == (rd x416001_2 x8_3)) = false := beq_eq_false_iff_ne.mpr c104
              simp only [Option.some.injEq, Prod.mk.injEq] at H
              obtain ⟨rfl, rfl, rfl⟩ := H
              have hnb112 := NB407_408.out
              have hnc112 := NB408_407.out
              have hnb113 := NB407_415.out
              have hnc113 := NB415_407.out
              obtain ⟨z114_0, z114_1, z114_2, z114_3, z114_4, z114_5, y114_0, y114_1, y114_2, y114_3, y114_4, y114_5⟩ := cells6 BK407.out
              have p424 : 0 ≤ (x8_3 : Int) := ofd
              have q424 : x8_3 < (l0_2.length : Int) := ofd
              obtain ⟨ad424, e424, hx424_0, hx424_1, hx424_2⟩ := at_T35 HR0_2.out x8_3 p424 q424
              cases e424
              replace hx424_0 := hxE HB.out hx424_0
              replace hx424_1 := hxE HB.out hx424_1
              replace hx424_2 := hxE HB.out hx424_2
              replace p424 := eq_true p424
              replace q424 := eq_true q424
              try go_wp2_with (first | ((with_reducible refine gate_callee (f := 15) rfl ?_); refine goesL_ (some 91) rfl rfl Try.func15 (by kernel_rfl) rfl #[.agg #[.int .i64 ((rd_T35 l0_2 x8_3).f0), .int .i64 ((rd_T35 l0_2 x8_3).f1), .int .i64 ((rd_T35 l0_2 x8_3).f2)]] rfl mpE ?_; (with_reducible refine (bluebellref06_Label.calls k3 ((rd_T35 l0_2 x8_3).f0) ((rd_T35 l0_2 x8_3).f1) ((rd_T35 l0_2 x8_3).f2) t425 _ A86.out).mono ?_); rintro e w115 ⟨rfl, hb⟩; refine ⟨_, rfl, ?_⟩; have n0_ := Aside0.mk (Kd.R_below (by (with_reducible repeat (first | apply Kd.R_alloc | apply Kd.R_drewN | apply Kd.R_drew)); exact HO_416000.out) hb); have n1_ := Aside0.mk (Kd.R_below (by (with_reducible repeat (first | apply Kd.R_alloc | apply Kd.R_drewN | apply Kd.R_drew)); exact HO_416001.out) hb); have n2_ := Aside0.mk (bkb (g := gb407) hb); have n3_ := Aside0.mk (bkb (g := gb408) hb); have n4_ := Aside0.mk (bkb (g := gb415) hb); have n5_ := Aside0.mk (bstep hb); clear HO_416000; clear HO_416001; clear BK407; clear BK408; clear BK415; clear HB; have HO_416000 := n0_; have HO_416001 := n1_; have BK407 := n2_; have BK408 := n3_; have BK415 := n4_; have HB := n5_; clear n0_ n1_ n2_ n3_ n4_ n5_; (try clear hb)))
              have n0_ := Aside0.mk (Kd.R_drew HO_416000.out)
              have n1_ := Aside0.mk (Kd.R_drew HO_416001.out)
              have n2_ := Aside0.mk (blk_drew BK407.out)
              have n3_ := Aside0.mk (blk_drew BK408.out)
              have n4_ := Aside0.mk (blk_drew BK415.out)
              have n5_ := Aside0.mk (below_drew1 HB.out)
              clear HO_416000
              clear HO_416001
              clear BK407
              clear BK408
              clear BK415
              clear HB
              have HO_416000 := n0_
              have HO_416001 := n1_
              have BK407 := n2_
              have BK408 := n3_
              have BK415 := n4_
              have HB := n5_
              clear n0_ n1_ n2_ n3_ n4_ n5_
              obtain ⟨Ao117, co117, eo117⟩ := Kd.R_slice HO_416000.out
              (first | subst eo117 | (injection eo117 with f1_ f2_ f3_; have f4_ := f1_.symm; have f5_ := f3_.symm; clear f1_ f2_ f3_; subst f4_; subst f5_))
              have p426 : 0 ≤ (t425 : Int) := ofd
              have q426 : t425 < (x416000_2.length : Int) := ofd
              obtain ⟨ad426, e426, hx426_0⟩ := Kd.at_int (Kd.R_reads' HO_416000.out).2.2 t425 p426 q426
              cases e426
              replace p426 := eq_true p426
              replace q426 := eq_true q426
              have p427 : 0 ≤ (t425 : Int) := ofd
              have q427 : t425 < (x416000_2.length : Int) := ofd
              obtain ⟨ad427, e427, hx427_0⟩ := Kd.at_int (Kd.R_reads' HO_416000.out).2.2 t425 p427 q427
              obtain rfl : ad426 = ad427 := (by injection e427)
              replace p427 := eq_true p427
              replace q427 := eq_true q427
              obtain ⟨Ao118, co118, eo118⟩ := Kd.R_slice HO_416001.out
              (first | subst eo118 | (injection eo118 with f1_ f2_ f3_; have f4_ := f1_.symm; have f5_ := f3_.symm; clear f1_ f2_ f3_; subst f4_; subst f5_))
              have p428 : 0 ≤ ((rd x416000_2 t425) : Int) := ofd
              have q428 : (rd x416000_2 t425) < (x416001_2.length : Int) := ofd
              obtain ⟨ad428, e428, hx428_0⟩ := Kd.at_int (Kd.R_reads' HO_416001.out).2.2 (rd x416000_2 t425) p428 q428
              cases e428
              replace p428 := eq_true p428
              replace q428 := eq_true q428
              have p429 : 0 ≤ (x8_3 : Int) := ofd
              have q429 : x8_3 < (x416001_2.length : Int) := ofd
              obtain ⟨ad429, e429, hx429_0⟩ := Kd.at_int (Kd.R_reads' HO_416001.out).2.2 x8_3 p429 q429
              obtain rfl : ad428 = ad429 := (by injection e429)
              replace p429 := eq_true p429
              replace q429 := eq_true q429
              refine start_ (n := 27) (S := fun w' => w'.cell? ⟨gb415, 0, none⟩ = some (.slice (some ad426) x416000_2.length co117) ∧ w'.cell? ⟨gb415, 1, none⟩ = some (.slice (some ad428) x416001_2.length co118) ∧ w'.cell? (ad426.add (t425).toNat) = some (.int .i64 (rd x416000_2 t425)) ∧ w'.cell? (ad426.add (t425).toNat) = some (.int .i64 (rd x416000_2 t425)) ∧ w'.cell? (ad428.add ((rd x416000_2 t425)).toNat) = some (.int .i64 (rd x416001_2 (rd x416000_2 t425))) ∧ w'.cell? (ad428.add (x8_3).toNat) = some (.int .i64 (rd x416001_2 x8_3))) (ds := []) #[false, false, false, false, false, false, false, false, false, false, false, false, false, false, false, false, false, false, false, false, false, false, false, false, false, false, false] (by kernel_rfl) rfl rfl ⟨(blk_cell BK415.out 0).trans rfl, (blk_cell BK415.out 1).trans rfl, hx426_0, hx427_0, hx428_0, hx429_0⟩ (fun hHeld => ?_); refine with_tabW bluebellref06_placed.tab21 bluebellref06_placed.bits21 (fun HT_ HW_ => ?_)
              generalize w115.drew = w116 at HO_416000 HO_416001 BK407 BK408 BK415 HB hx426_0 hx427_0 hx428_0 hx429_0 hHeld ⊢
              refine pureE (i := 0) (N := some 92) #[true, false, false, false, false, false, false, false, false, false, false, false, false, false, false, false, false, false, false, false, false, false, false, false, false, false, false] HT_.out ?_
              refine pureE (i := 1) (N := some 93) #[true, true, false, false, false, false, false, false, false, false, false, false, false, false, false, false, false, false, false, false, false, false, false, false, false, false, false] HT_.out ?_
              refine pureE (i := 2) (N := some 94) #[true, true, true, false, false, false, false, false, false, false, false, false, false, false, false, false, false, false, false, false, false, false, false, false, false, false, false] HT_.out ?_
              refine pureE (i := 3) (N := some 95) #[true, true, true, true, false, false, false, false, false, false, false, false, false, false, false, false, false, false, false, false, false, false, false, false, false, false, false] HT_.out ?_
              refine pureE (i := 5) (N := some 97) #[true, true, true, true, false, true, false, false, false, false, false, false, false, false, false, false, false, false, false, false, false, false, false, false, false, false, false] HT_.out ?_
              refine take_ (i := 4) (N := some 96) (v := ?_) (a' := ?_) #[true, true, true, true, true, true, false, false, false, false, false, false, false, false, false, false, false, false, false, false, false, false, false, false, false, false, false] rfl rfl (take_ofW HT_.out HW_.out (by kernel_rfl)) (fun _ _ _ h => h) (Or.inl ⟨by rfl, ?_⟩) hHeld ?_ ?_
              rotate_left
              ·rintro w' ⟨s0, s1, s2, s3, s4, s5⟩
               go_simp
               with_reducible rfl
              rotate_left
              ·simp only [Act.put, List.setIfInBounds_toArray, List.set_cons_zero, List.set_cons_succ, i64_w, i32_w]
               rfl
              refine pureE (i := 6) (N := some 98) #[true, true, true, true, true, true, true, false, false, false, false, false, false, false, false, false, false, false, false, false, false, false, false, false, false, false, false] HT_.out ?_
              refine take_ (i := 7) (N := some 99) (v := ?_) (a' := ?_) #[true, true, true, true, true, true, true, true, false, false, false, false, false, false, false, false, false, false, false, false, false, false, false, false, false, false, false] rfl rfl (take_ofW HT_.out HW_.out (by kernel_rfl)) (fun _ _ _ h => h) (Or.inl ⟨by rfl, ?_⟩) hHeld ?_ ?_
              rotate_left
              ·rintro w' ⟨s0, s1, s2, s3, s4, s5⟩
               go_simp
               with_reducible rfl
              rotate_left
              ·simp only [Act.put, List.setIfInBounds_toArray, List.set_cons_zero, List.set_cons_succ, i64_w, i32_w]
               rfl
              refine pureE (i := 8) (N := some 100) #[true, true, true, true, true, true, true, true, true, false, false, false, false, false, false, false, false, false, false, false, false, false, false, false, false, false, false] HT_.out ?_
              refine pureE (i := 9) (N := some 101) #[true, true, true, true, true, true, true, true, true, true, false, false, false, false, false, false, false, false, false, false, false, false, false, false, false, false, false] HT_.out ?_
              refine pureE (i := 10) (N := some 102) #[true, true, true, true, true, true, true, true, true, true, true, false, false, false, false, false, false, false, false, false, false, false, false, false, false, false, false] HT_.out ?_
              refine pureE (i := 12) (N := some 104) #[true, true, true, true, true, true, true, true, true, true, true, false, true, false, false, false, false, false, false, false, false, false, false, false, false, false, false] HT_.out ?_
              refine pureE (i := 14) (N := some 106) #[true, true, true, true, true, true, true, true, true, true, true, false, true, false, true, false, false, false, false, false, false, false, false, false, false, false, false] HT_.out ?_
              refine pureE (i := 19) (N := some 111) #[true, true, true, true, true, true, true, true, true, true, true, false, true, false, true, false, false, false, false, true, false, false, false, false, false, false, false] HT_.out ?_
              refine pureE (i := 21) (N := some 113) #[true, true, true, true, true, true, true, true, true, true, true, false, true, false, true, false, false, false, false, true, false, true, false, false, false, false, false] HT_.out ?_
              refine take_ (i := 11) (N := some 103) (v := ?_) (a' := ?_) #[true, true, true, true, true, true, true, true, true, true, true, true, true, false, true, false, false, false, false, true, false, true, false, false, false, false, false] rfl rfl (take_ofW HT_.out HW_.out (by kernel_rfl)) (fun _ _ _ h => h) (Or.inl ⟨by rfl, ?_⟩) hHeld ?_ ?_
              rotate_left
              ·rintro w' ⟨s0, s1, s2, s3, s4, s5⟩
               go_simp
               with_reducible rfl
              rotate_left
              ·simp only [Act.put, List.setIfInBounds_toArray, List.set_cons_zero, List.set_cons_succ, i64_w, i32_w]
               rfl
              refine take_ (i := 13) (N := some 105) (v := ?_) (a' := ?_) #[true, true, true, true, true, true, true, true, true, true, true, true, true, true, true, false, false, false, false, true, false, true, false, false, false, false, false] rfl rfl (take_ofW HT_.out HW_.out (by kernel_rfl)) (fun _ _ _ h => h) (Or.inl ⟨by rfl, ?_⟩) hHeld ?_ ?_
              rotate_left
              ·rintro w' ⟨s0, s1, s2, s3, s4, s5⟩
               go_simp
               with_reducible rfl
              rotate_left
              ·simp only [Act.put, List.setIfInBounds_toArray, List.set_cons_zero, List.set_cons_succ, i64_w, i32_w]
               rfl
              refine pureE (i := 15) (N := some 107) #[true, true, true, true, true, true, true, true, true, true, true, true, true, true, true, true, false, false, false, true, false, true, false, false, false, false, false] HT_.out ?_
              refine take_ (i := 16) (N := some 108) (v := ?_) (a' := ?_) #[true, true, true, true, true, true, true, true, true, true, true, true, true, true, true, true, true, false, false, true, false, true, false, false, false, false, false] rfl rfl (take_ofW HT_.out HW_.out (by kernel_rfl)) (fun _ _ _ h => h) (Or.inl ⟨by rfl, ?_⟩) hHeld ?_ ?_
              rotate_left
              ·rintro w' ⟨s0, s1, s2, s3, s4, s5⟩
               go_simp
               with_reducible rfl
              rotate_left
              ·simp only [Act.put, List.setIfInBounds_toArray, List.set_cons_zero, List.set_cons_succ, i64_w, i32_w]
               rfl
              refine pureE (i := 17) (N := some 109) #[true, true, true, true, true, true, true, true, true, true, true, true, true, true, true, true, true, true, false, true, false, true, false, false, false, false, false] HT_.out ?_
              refine take_ (i := 18) (N := some 110) (v := ?_) (a' := ?_) #[true, true, true, true, true, true, true, true, true, true, true, true, true, true, true, true, true, true, true, true, false, true, false, false, false, false, false] rfl rfl (take_ofW HT_.out HW_.out (by kernel_rfl)) (fun _ _ _ h => h) (Or.inl ⟨by rfl, ?_⟩) hHeld ?_ ?_
              rotate_left
              ·rintro w' ⟨s0, s1, s2, s3, s4, s5⟩
               go_simp
               with_reducible rfl
              rotate_left
              ·simp only [Act.put, List.setIfInBounds_toArray, List.set_cons_zero, List.set_cons_succ, i64_w, i32_w]
               rfl
              refine take_ (i := 20) (N := some 112) (v := ?_) (a' := ?_) #[true, true, true, true, true, true, true, true, true, true, true, true, true, true, true, true, true, true, true, true, true, true, false, false, false, false, false] rfl rfl (take_ofW HT_.out HW_.out (by kernel_rfl)) (fun _ _ _ h => h) (Or.inl ⟨by rfl, ?_⟩) hHeld ?_ ?_
              rotate_left
              ·rintro w' ⟨s0, s1, s2, s3, s4, s5⟩
               go_simp
               with_reducible rfl
              rotate_left
              ·simp only [Act.put, List.setIfInBounds_toArray, List.set_cons_zero, List.set_cons_succ, i64_w, i32_w]
               rfl
              refine pureE (i := 22) (N := some 114) #[true, true, true, true, true, true, true, true, true, true, true, true, true, true, true, true, true, true, true, true, true, true, true, false, false, false, false] HT_.out ?_
              refine take_ (i := 23) (N := some 115) (v := ?_) (a' := ?_) #[true, true, true, true, true, true, true, true, true, true, true, true, true, true, true, true, true, true, true, true, true, true, true, true, false, false, false] rfl rfl (take_ofW HT_.out HW_.out (by kernel_rfl)) (fun _ _ _ h => h) (Or.inl ⟨by rfl, ?_⟩) hHeld ?_ ?_
              rotate_left
              ·rintro w' ⟨s0, s1, s2, s3, s4, s5⟩
               go_simp
               with_reducible rfl
              rotate_left
              ·simp only [Act.put, List.setIfInBounds_toArray, List.set_cons_zero, List.set_cons_succ, i64_w, i32_w]
               rfl
              refine pureE (i := 24) (N := some 116) #[true, true, true, true, true, true, true, true, true, true, true, true, true, true, true, true, true, true, true, true, true, true, true, true, true, false, false] HT_.out ?_
              refine pureE (i := 25) (N := some 117) #[true, true, true, true, true, true, true, true, true, true, true, true, true, true, true, true, true, true, true, true, true, true, true, true, true, true, false] HT_.out ?_
              refine pureE (i := 26) (N := some 118) #[true, true, true, true, true, true, true, true, true, true, true, true, true, true, true, true, true, true, true, true, true, true, true, true, true, true, true] HT_.out ?_
              refine done_ (done_of HT_.out (by kernel_rfl)) ?_
              have hnb119 := NB415_408.out
              have hnc119 := NB408_415.out
              obtain ⟨z120_0, z120_1, y120_0, y120_1⟩ := cells2 BK415.out
              obtain ⟨z121_0, z121_1, y121_0, y121_1⟩ := cells2 BK408.out
              try go_wp2
              refine bodyPost_ret (results_ct rfl _ _ gb408 60 #[.slice (some ad426) x416000_2.length co117, .slice (some ad428) x416001_2.length co118] (0, 0) _ rfl (by (with_reducible repeat (first | refine blk_drewN ?_ _ | refine blk_drew ?_ | refine blk_alloc ?_ _)); refine blk_put (cs := #[.slice (some ad426) x416000_2.length co117, .slice none 0 0]) ?_ 1 _ rfl; (with_reducible repeat (first | refine blk_drewN ?_ _ | refine blk_drew ?_ | refine blk_alloc ?_ _)); refine blk_put (cs := #[.slice none 0 0, .slice none 0 0]) ?_ 0 _ rfl; (with_reducible repeat (first | refine blk_drewN ?_ _ | refine blk_drew ?_ | refine blk_alloc ?_ _)); exact BK408.out) Try.underlying60 rfl (by kernel_rfl)) rfl ?_
              exact ⟨_, _, by first | rfl | (simp [errW_none, errW_some] <;> rfl) | (simp only [← hji2]; first | rfl | (simp [errW_none, errW_some] <;> rfl)) | (simp [*, errW_none, errW_some] <;> rfl), by (with_reducible repeat (first | apply Kd.R_alloc | apply Kd.R_drewN | apply Kd.R_drew)); exact Kd.R_mono (Kd.R_far (p := ⟨gb408, 1, none⟩) (Kd.R_far (p := ⟨gb408, 0, none⟩) (Kd.R_types HO_416000.out BK408.out (by decide)) (fun _ hk => hk.2) (.slice (some ad426) x416000_2.length co117)) (fun _ hk => hk.2) (.slice (some ad428) x416001_2.length co118)) (fun _ hk => hk.1), by (with_reducible repeat (first | apply Kd.R_alloc | apply Kd.R_drewN | apply Kd.R_drew)); exact Kd.R_mono (Kd.R_far (p := ⟨gb408, 1, none⟩) (Kd.R_far (p := ⟨gb408, 0, none⟩) (Kd.R_types HO_416001.out BK408.out (by decide)) (fun _ hk => hk.2) (.slice (some ad426) x416000_2.length co117)) (fun _ hk => hk.2) (.slice (some ad428) x416001_2.length co118)) (fun _ hk => hk.1), bw⟩
           ·rw [if_neg c87] at H
            have c87b0 : decide (0 < t425) = false := decide_eq_false c87
            clear c87
            have H' := Aside0.mk H
            clear H
            have hnb122 := NB407_408.out
            have hnc122 := NB408_407.out
            have hnb123 := NB407_415.out
            have hnc123 := NB415_407.out
            obtain ⟨z124_0, z124_1, z124_2, z124_3, z124_4, z124_5, y124_0, y124_1, y124_2, y124_3, y124_4, y124_5⟩ := cells6 BK407.out
            have p424 : 0 ≤ (x8_3 : Int) := ofd
            have q424 : x8_3 < (l0_2.length : Int) := ofd
            obtain ⟨ad424, e424, hx424_0, hx424_1, hx424_2⟩ := at_T35 HR0_2.out x8_3 p424 q424
            cases e424
            replace hx424_0 := hxE HB.out hx424_0
            replace hx424_1 := hxE HB.out hx424_1
            replace hx424_2 := hxE HB.out hx424_2
            replace p424 := eq_true p424
            replace q424 := eq_true q424
            try go_wp2_with (first | ((with_reducible refine gate_callee (f := 15) rfl ?_); refine goesL_ (some 91) rfl rfl Try.func15 (by kernel_rfl) rfl #[.agg #[.int .i64 ((rd_T35 l0_2 x8_3).f0), .int .i64 ((rd_T35 l0_2 x8_3).f1), .int .i64 ((rd_T35 l0_2 x8_3).f2)]] rfl mpE ?_; (with_reducible refine (bluebellref06_Label.calls k3 ((rd_T35 l0_2 x8_3).f0) ((rd_T35 l0_2 x8_3).f1) ((rd_T35 l0_2 x8_3).f2) t425 _ A86.out).mono ?_); rintro e w125 ⟨rfl, hb⟩; refine ⟨_, rfl, ?_⟩; have n0_ := Aside0.mk (Kd.R_below (by (with_reducible repeat (first | apply Kd.R_alloc | apply Kd.R_drewN | apply Kd.R_drew)); exact HO_416000.out) hb); have n1_ := Aside0.mk (Kd.R_below (by (with_reducible repeat (first | apply Kd.R_alloc | apply Kd.R_drewN | apply Kd.R_drew)); exact HO_416001.out) hb); have n2_ := Aside0.mk (bkb (g := gb407) hb); have n3_ := Aside0.mk (bkb (g := gb408) hb); have n4_ := Aside0.mk (bkb (g := gb415) hb); have n5_ := Aside0.mk (bstep hb); clear HO_416000; clear HO_416001; clear BK407; clear BK408; clear BK415; clear HB; have HO_416000 := n0_; have HO_416001 := n1_; have BK407 := n2_; have BK408 := n3_; have BK415 := n4_; have HB := n5_; clear n0_ n1_ n2_ n3_ n4_ n5_; (try clear hb)))
            have n0_ := Aside0.mk (Kd.R_drew HO_416000.out)
            have n1_ := Aside0.mk (Kd.R_drew HO_416001.out)
            have n2_ := Aside0.mk (blk_drew BK407.out)
            have n3_ := Aside0.mk (blk_drew BK408.out)
            have n4_ := Aside0.mk (blk_drew BK415.out)
            have n5_ := Aside0.mk (below_drew1 HB.out)
            clear HO_416000
            clear HO_416001
            clear BK407
            clear BK408
            clear BK415
            clear HB
            have HO_416000 := n0_
            have HO_416001 := n1_
            have BK407 := n2_
            have BK408 := n3_
            have BK415 := n4_
            have HB := n5_
            clear n0_ n1_ n2_ n3_ n4_ n5_
            refine start_ (n := 27) (S := fun w' => True) (ds := []) #[false, false, false, false, false, false, false, false, false, false, false, false, false, false, false, false, false, false, false, false, false, false, false, false, false, false, false] (by kernel_rfl) rfl rfl trivial (fun hHeld => ?_); refine with_tabW bluebellref06_placed.tab21 bluebellref06_placed.bits21 (fun HT_ HW_ => ?_)
            generalize w125.drew = w126 at HO_416000 HO_416001 BK407 BK408 BK415 HB hHeld ⊢
            refine pureE (i := 0) (N := some 92) #[true, false, false, false, false, false, false, false, false, false, false, false, false, false, false, false, false, false, false, false, false, false, false, false, false, false, false] HT_.out ?_
            refine pureE (i := 1) (N := some 93) #[true, true, false, false, false, false, false, false, false, false, false, false, false, false, false, false, false, false, false, false, false, false, false, false, false, false, false] HT_.out ?_
            refine pureE (i := 2) (N := some 94) #[true, true, true, false, false, false, false, false, false, false, false, false, false, false, false, false, false, false, false, false, false, false, false, false, false, false, false] HT_.out ?_
            refine pureU (i := 3) (N := some 95) #[true, true, true, true, false, false, false, false, false, false, false, false, false, false, false, false, false, false, false, false, false, false, false, false, false, false, false] HT_.out ?_
            refine pureU (i := 4) (N := some 96) #[true, true, true, true, true, false, false, false, false, false, false, false, false, false, false, false, false, false, false, false, false, false, false, false, false, false, false] HT_.out ?_
            refine pureU (i := 5) (N := some 97) #[true, true, true, true, true, true, false, false, false, false, false, false, false, false, false, false, false, false, false, false, false, false, false, false, false, false, false] HT_.out ?_
            refine pureU (i := 6) (N := some 98) #[true, true, true, true, true, true, true, false, false, false, false, false, false, false, false, false, false, false, false, false, false, false, false, false, false, false, false] HT_.out ?_
            refine pureU (i := 7) (N := some 99) #[true, true, true, true, true, true, true, true, false, false, false, false, false, false, false, false, false, false, false, false, false, false, false, false, false, false, false] HT_.out ?_
            refine pureU (i := 8) (N := some 100) #[true, true, true, true, true, true, true, true, true, false, false, false, false, false, false, false, false, false, false, false, false, false, false, false, false, false, false] HT_.out ?_
            refine pureU (i := 9) (N := some 101) #[true, true, true, true, true, true, true, true, true, true, false, false, false, false, false, false, false, false, false, false, false, false, false, false, false, false, false] HT_.out ?_
            refine pureU (i := 10) (N := some 102) #[true, true, true, true, true, true, true, true, true, true, true, false, false, false, false, false, false, false, false, false, false, false, false, false, false, false, false] HT_.out ?_
            refine pureU (i := 11) (N := some 103) #[true, true, true, true, true, true, true, true, true, true, true, true, false, false, false, false, false, false, false, false, false, false, false, false, false, false, false] HT_.out ?_
            refine pureU (i := 12) (N := some 104) #[true, true, true, true, true, true, true, true, true, true, true, true, true, false, false, false, false, false, false, false, false, false, false, false, false, false, false] HT_.out ?_
            refine pureU (i := 13) (N := some 105) #[true, true, true, true, true, true, true, true, true, true, true, true, true, true, false, false, false, false, false, false, false, false, false, false, false, false, false] HT_.out ?_
            refine pureU (i := 14) (N := some 106) #[true, true, true, true, true, true, true, true, true, true, true, true, true, true, true, false, false, false, false, false, false, false, false, false, false, false, false] HT_.out ?_
            refine pureU (i := 15) (N := some 107) #[true, true, true, true, true, true, true, true, true, true, true, true, true, true, true, true, false, false, false, false, false, false, false, false, false, false, false] HT_.out ?_
            refine pureU (i := 16) (N := some 108) #[true, true, true, true, true, true, true, true, true, true, true, true, true, true, true, true, true, false, false, false, false, false, false, false, false, false, false] HT_.out ?_
            refine pureU (i := 17) (N := some 109) #[true, true, true, true, true, true, true, true, true, true, true, true, true, true, true, true, true, true, false, false, false, false, false, false, false, false, false] HT_.out ?_
            refine pureU (i := 18) (N := some 110) #[true, true, true, true, true, true, true, true, true, true, true, true, true, true, true, true, true, true, true, false, false, false, false, false, false, false, false] HT_.out ?_
            refine pureU (i := 19) (N := some 111) #[true, true, true, true, true, true, true, true, true, true, true, true, true, true, true, true, true, true, true, true, false, false, false, false, false, false, false] HT_.out ?_
            refine pureU (i := 20) (N := some 112) #[true, true, true, true, true, true, true, true, true, true, true, true, true, true, true, true, true, true, true, true, true, false, false, false, false, false, false] HT_.out ?_
            refine pureU (i := 21) (N := some 113) #[true, true, true, true, true, true, true, true, true, true, true, true, true, true, true, true, true, true, true, true, true, true, false, false, false, false, false] HT_.out ?_
            refine pureU (i := 22) (N := some 114) #[true, true, true, true, true, true, true, true, true, true, true, true, true, true, true, true, true, true, true, true, true, true, true, false, false, false, false] HT_.out ?_
            refine pureU (i := 23) (N := some 115) #[true, true, true, true, true, true, true, true, true, true, true, true, true, true, true, true, true, true, true, true, true, true, true, true, false, false, false] HT_.out ?_
            refine pureU (i := 24) (N := some 116) #[true, true, true, true, true, true, true, true, true, true, true, true, true, true, true, true, true, true, true, true, true, true, true, true, true, false, false] HT_.out ?_
            refine pureU (i := 25) (N := some 117) #[true, true, true, true, true, true, true, true, true, true, true, true, true, true, true, true, true, true, true, true, true, true, true, true, true, true, false] HT_.out ?_
            refine pureE (i := 26) (N := some 118) #[true, true, true, true, true, true, true, true, true, true, true, true, true, true, true, true, true, true, true, true, true, true, true, true, true, true, true] HT_.out ?_
            refine done_ (done_of HT_.out (by kernel_rfl)) ?_
            try go_wp2
            go_roundg k3
            case measure => have := HK1.out; have := HK2.out; have := HK3.out; omega
            case rel => exact ⟨(wrap64 (x8_3 + 1)), wrE, H', ⟨by have := HK1.out; have := HK2.out; have := HK3.out; omega⟩, ⟨by (with_reducible repeat (first | apply Kd.R_alloc | apply Kd.R_drewN | apply Kd.R_drew)); exact HO_416000.out⟩, ⟨by (with_reducible repeat (first | apply Kd.R_alloc | apply Kd.R_drewN | apply Kd.R_drew)); exact HO_416001.out⟩, ⟨bk⟩, ⟨bk⟩, ⟨bk⟩, ⟨bw⟩⟩
          ·rw [if_neg c84] at H
           have c84b0 : decide (x8_3 < (l0_2.length : Int)) = false := decide_eq_false c84
           clear c84
           simp only [Option.some.injEq, Prod.mk.injEq] at H
           obtain ⟨rfl, rfl, rfl⟩ := H
           have hnb127 := NB407_408.out
           have hnc127 := NB408_407.out
           have hnb128 := NB407_415.out
           have hnc128 := NB415_407.out
           obtain ⟨z129_0, z129_1, z129_2, z129_3, z129_4, z129_5, y129_0, y129_1, y129_2, y129_3, y129_4, y129_5⟩ := cells6 BK407.out
           have hnb130 := NB415_408.out
           have hnc130 := NB408_415.out
           obtain ⟨z131_0, z131_1, y131_0, y131_1⟩ := cells2 BK415.out
           obtain ⟨Ao132, co132, eo132⟩ := Kd.R_slice HO_416000.out
           subst eo132
           obtain ⟨z133_0, z133_1, y133_0, y133_1⟩ := cells2 BK408.out
           obtain ⟨Ao134, co134, eo134⟩ := Kd.R_slice HO_416001.out
           subst eo134
           go_wp2
           refine bodyPost_ret (results_ct rfl _ _ gb408 60 #[.slice Ao132 x416000_2.length co132, .slice Ao134 x416001_2.length co134] (0, 0) _ rfl (by (with_reducible repeat (first | refine blk_drewN ?_ _ | refine blk_drew ?_ | refine blk_alloc ?_ _)); refine blk_put (cs := #[.slice Ao132 x416000_2.length co132, .slice none 0 0]) ?_ 1 _ rfl; (with_reducible repeat (first | refine blk_drewN ?_ _ | refine blk_drew ?_ | refine blk_alloc ?_ _)); refine blk_put (cs := #[.slice none 0 0, .slice none 0 0]) ?_ 0 _ rfl; (with_reducible repeat (first | refine blk_drewN ?_ _ | refine blk_drew ?_ | refine blk_alloc ?_ _)); exact BK408.out) Try.underlying60 rfl (by kernel_rfl)) rfl ?_
           exact ⟨_, _, by first | rfl | (simp [errW_none, errW_some] <;> rfl) | (simp only [← hji2]; first | rfl | (simp [errW_none, errW_some] <;> rfl)) | (simp [*, errW_none, errW_some] <;> rfl), by (with_reducible repeat (first | apply Kd.R_alloc | apply Kd.R_drewN | apply Kd.R_drew)); exact Kd.R_mono (Kd.R_far (p := ⟨gb408, 1, none⟩) (Kd.R_far (p := ⟨gb408, 0, none⟩) (Kd.R_types HO_416000.out BK408.out (by decide)) (fun _ hk => hk.2) (.slice Ao132 x416000_2.length co132)) (fun _ hk => hk.2) (.slice Ao134 x416001_2.length co134)) (fun _ hk => hk.1), by (with_reducible repeat (first | apply Kd.R_alloc | apply Kd.R_drewN | apply Kd.R_drew)); exact Kd.R_mono (Kd.R_far (p := ⟨gb408, 1, none⟩) (Kd.R_far (p := ⟨gb408, 0, none⟩) (Kd.R_types HO_416001.out BK408.out (by decide)) (fun _ hk => hk.2) (.slice Ao132 x416000_2.length co132)) (fun _ hk => hk.2) (.slice Ao134 x416001_2.length co134)) (fun _ hk => hk.1), bw⟩
 ·rw [if_neg c3] at H
  exact absurd H (by simp)



/-! ### bluebellref06_After: function 21 -/
mutual
def bluebellref06_After.j0 : Nat → Int → Int → Bool → Int → Int → Int → Option (Int)
 | 0, _, _, _, _, _, _ => none
 | k + 1, x1, x6, x7, p0, p1, p2 => if x7 = true then (some (wrap64 (x1 + 1))) else (if x6 = 3 then (bluebellref06_After.j1 k x1 x6 (x6 == 3) p0 p1 p2) else (if x6 = 6 then (bluebellref06_After.j1 k x1 x6 (x6 == 6) p0 p1 p2) else (if x6 = 9 then (bluebellref06_After.j1 k x1 x6 (x6 == 9) p0 p1 p2) else (if x6 = 16 then (bluebellref06_After.j1 k x1 x6 (x6 == 16) p0 p1 p2) else (if x6 = 14 then (bluebellref06_After.j1 k x1 x6 (x6 == 14) p0 p1 p2) else (if x6 = 21 then (bluebellref06_After.j1 k x1 x6 (x6 == 21) p0 p1 p2) else (if x6 = 22 then (bluebellref06_After.j1 k x1 x6 (x6 == 22) p0 p1 p2) else (if x6 = 29 then (bluebellref06_After.j1 k x1 x6 (x6 == 29) p0 p1 p2) else (if x6 = 25 then (bluebellref06_After.j1 k x1 x6 (x6 == 25) p0 p1 p2) else (bluebellref06_After.j1 k x1 x6 (x6 == 27) p0 p1 p2))))))))))
def bluebellref06_After.j1 : Nat → Int → Int → Bool → Int → Int → Int → Option (Int)
 | 0, _, _, _, _, _, _ => none
 | k + 1, x1, x6, x18, p0, p1, p2 => if x18 = true then (some (wrap64 (x1 - 1))) else (if x6 = 13 then (some (wrap64 (x1 - 2))) else (if x6 = 15 then (some (wrap64 (x1 - 3))) else (if x6 = 18 then (some p1) else (if x6 = 23 then (bluebellref06_After.j2 k x1 x6 (x6 == 23) p0 p1 p2) else (bluebellref06_After.j2 k x1 x6 (x6 == 28) p0 p1 p2)))))
def bluebellref06_After.j2 : Nat → Int → Int → Bool → Int → Int → Int → Option (Int)
 | 0, _, _, _, _, _, _ => none
 | k + 1, x1, x6, x43, p0, p1, p2 => if x43 = true then (some (wrap64 (p1 + 1))) else (if x6 = 24 then (some (wrap64 (2 + p2))) else (some x1))
end
def bluebellref06_After.f (k : Nat) (a0_0 : Int) (a0_1 : Int) (a0_2 : Int) (a1 : Int) : Option (Int) := if a0_0 = 1 then (bluebellref06_After.j0 k a1 a0_0 (a0_0 == 1) a0_0 a0_1 a0_2) else (if a0_0 = 2 then (bluebellref06_After.j0 k a1 a0_0 (a0_0 == 2) a0_0 a0_1 a0_2) else (if a0_0 = 4 then (bluebellref06_After.j0 k a1 a0_0 (a0_0 == 4) a0_0 a0_1 a0_2) else (if a0_0 = 5 then (bluebellref06_After.j0 k a1 a0_0 (a0_0 == 5) a0_0 a0_1 a0_2) else (if a0_0 = 7 then (bluebellref06_After.j0 k a1 a0_0 (a0_0 == 7) a0_0 a0_1 a0_2) else (if a0_0 = 8 then (bluebellref06_After.j0 k a1 a0_0 (a0_0 == 8) a0_0 a0_1 a0_2) else (if a0_0 = 10 then (bluebellref06_After.j0 k a1 a0_0 (a0_0 == 10) a0_0 a0_1 a0_2) else (bluebellref06_After.j0 k a1 a0_0 (a0_0 == 11) a0_0 a0_1 a0_2)))))))
theorem bluebellref06_After.mono_l : ∀ k, (∀ y0 y1 y2 y3 y4 y5, LeO (bluebellref06_After.j0 k y0 y1 y2 y3 y4 y5) (bluebellref06_After.j0 (k + 1) y0 y1 y2 y3 y4 y5)) ∧ (∀ y0 y1 y2 y3 y4 y5, LeO (bluebellref06_After.j1 k y0 y1 y2 y3 y4 y5) (bluebellref06_After.j1 (k + 1) y0 y1 y2 y3 y4 y5)) ∧ (∀ y0 y1 y2 y3 y4 y5, LeO (bluebellref06_After.j2 k y0 y1 y2 y3 y4 y5) (bluebellref06_After.j2 (k + 1) y0 y1 y2 y3 y4 y5))
 | 0 => ⟨fun _ _ _ _ _ _ r h => by simp [bluebellref06_After.j0] at h, fun _ _ _ _ _ _ r h => by simp [bluebellref06_After.j1] at h, fun _ _ _ _ _ _ r h => by simp [bluebellref06_After.j2] at h⟩
 | k + 1 => by
  obtain ⟨ih0, ih1, ih2⟩ := bluebellref06_After.mono_l k
  refine ⟨?_, ?_, ?_⟩
  ·intro y0 y1 y2 y3 y4 y5
   unfold bluebellref06_After.j0
   repeat' first
   | (with_reducible exact ih0 _ _ _ _ _ _)
   | (with_reducible exact ih1 _ _ _ _ _ _)
   | (with_reducible exact ih2 _ _ _ _ _ _)
   | (with_reducible exact LeO.refl _)
   | (with_reducible exact LeO.none _)
   | (with_reducible refine LeO.ite ?_ ?_)
   | (with_reducible refine LeO.bind ?_ (fun _ => ?_))
   | exact ih0 _ _ _ _ _ _
   | exact ih1 _ _ _ _ _ _
   | exact ih2 _ _ _ _ _ _
   | exact LeO.none _
   | refine LeO.ite ?_ ?_
   | refine LeO.bind ?_ (fun _ => ?_)
  ·intro y0 y1 y2 y3 y4 y5
   unfold bluebellref06_After.j1
   repeat' first
   | (with_reducible exact ih0 _ _ _ _ _ _)
   | (with_reducible exact ih1 _ _ _ _ _ _)
   | (with_reducible exact ih2 _ _ _ _ _ _)
   | (with_reducible exact LeO.refl _)
   | (with_reducible exact LeO.none _)
   | (with_reducible refine LeO.ite ?_ ?_)
   | (with_reducible refine LeO.bind ?_ (fun _ => ?_))
   | exact ih0 _ _ _ _ _ _
   | exact ih1 _ _ _ _ _ _
   | exact ih2 _ _ _ _ _ _
   | exact LeO.none _
   | refine LeO.ite ?_ ?_
   | refine LeO.bind ?_ (fun _ => ?_)
  ·intro y0 y1 y2 y3 y4 y5
   unfold bluebellref06_After.j2
   repeat' first
   | (with_reducible exact ih0 _ _ _ _ _ _)
   | (with_reducible exact ih1 _ _ _ _ _ _)
   | (with_reducible exact ih2 _ _ _ _ _ _)
   | (with_reducible exact LeO.refl _)
   | (with_reducible exact LeO.none _)
   | (with_reducible refine LeO.ite ?_ ?_)
   | (with_reducible refine LeO.bind ?_ (fun _ => ?_))
   | exact ih0 _ _ _ _ _ _
   | exact ih1 _ _ _ _ _ _
   | exact ih2 _ _ _ _ _ _
   | exact LeO.none _
   | refine LeO.ite ?_ ?_
   | refine LeO.bind ?_ (fun _ => ?_)
theorem bluebellref06_After.mono : ∀ a0 a1 a2 a3 k, LeO (bluebellref06_After.f k a0 a1 a2 a3) (bluebellref06_After.f (k + 1) a0 a1 a2 a3) := by
 intro a0 a1 a2 a3 k
 obtain ⟨ih0, ih1, ih2⟩ := bluebellref06_After.mono_l k
 unfold bluebellref06_After.f
 repeat' first
   | (with_reducible exact ih0 _ _ _ _ _ _)
   | (with_reducible exact ih1 _ _ _ _ _ _)
   | (with_reducible exact ih2 _ _ _ _ _ _)
   | (with_reducible exact LeO.refl _)
   | (with_reducible exact LeO.none _)
   | (with_reducible refine LeO.ite ?_ ?_)
   | (with_reducible refine LeO.bind ?_ (fun _ => ?_))
   | exact ih0 _ _ _ _ _ _
   | exact ih1 _ _ _ _ _ _
   | exact ih2 _ _ _ _ _ _
   | exact LeO.none _
   | refine LeO.ite ?_ ?_
   | refine LeO.bind ?_ (fun _ => ?_)
set_option maxHeartbeats 8000000 in
set_option maxRecDepth 100000 in
theorem bluebellref06_After.calls (k : Nat) (a0_0 : Int) (a0_1 : Int) (a0_2 : Int) (a1 : Int) (r : Int) (w : World) (h : bluebellref06_After.f k a0_0 a0_1 a0_2 a1 = some r) :
  Calls Try.prog 21 #[.agg #[.int .i64 a0_0, .int .i64 a0_1, .int .i64 a0_2], .int .i64 a1] w fun e w' => e = .returned (.int .i64 r) ∧ Below w.heap.size w w' := by
 have hu35 := Try.underlying35
 have HB := Aside0.mk (Below.refl w.heap.size w)
 have H : (if a0_0 = 1 then (bluebellref06_After.j0 k a1 a0_0 (a0_0 == 1) a0_0 a0_1 a0_2) else (if a0_0 = 2 then (bluebellref06_After.j0 k a1 a0_0 (a0_0 == 2) a0_0 a0_1 a0_2) else (if a0_0 = 4 then (bluebellref06_After.j0 k a1 a0_0 (a0_0 == 4) a0_0 a0_1 a0_2) else (if a0_0 = 5 then (bluebellref06_After.j0 k a1 a0_0 (a0_0 == 5) a0_0 a0_1 a0_2) else (if a0_0 = 7 then (bluebellref06_After.j0 k a1 a0_0 (a0_0 == 7) a0_0 a0_1 a0_2) else (if a0_0 = 8 then (bluebellref06_After.j0 k a1 a0_0 (a0_0 == 8) a0_0 a0_1 a0_2) else (if a0_0 = 10 then (bluebellref06_After.j0 k a1 a0_0 (a0_0 == 10) a0_0 a0_1 a0_2) else (bluebellref06_After.j0 k a1 a0_0 (a0_0 == 11) a0_0 a0_1 a0_2)))))))) = some r := h
 clear h
 have HC3 := Aside0.mk H
 clear H
 go_enter Try.func21, Try.ntmps21
 go_upto_if 7 with (first | ((with_reducible refine gate_dst (N := 2) rfl ?_); refine boxev (N := 2) (cs := #[.int .i64 a0_0, .int .i64 a0_1, .int .i64 a0_2]) (t := 35) ?_; intro gb326 hg w4 hbox hb; have BK326 := Aside0.mk (hbox); have GW326 := Aside0.mk ((by rw [hg]; exact bsz : w.heap.size ≤ gb326)); have GE326 := Aside0.mk ((by rw [hg]; exact bsz : w.heap.size ≤ gb326)); replace HB := Aside0.mk (bstep hb); clear hb hbox hg; obtain ⟨z5_0, z5_1, z5_2, y5_0, y5_1, y5_2⟩ := cells3 BK326.out))
 (try simp only [Act.put, List.setIfInBounds_toArray, List.set_cons_zero, List.set_cons_succ])
 go_cut [7] (fun v7 wc => ∃ (kq : Nat) (x7_2 : Bool), v7 = .bool x7_2 ∧ Aside0 (bluebellref06_After.j0 kq a1 a0_0 x7_2 a0_0 a0_1 a0_2 = some r) ∧ Aside0 (kq ≤ k) ∧ Aside0 (wc.heap[gb326]? = some (.cells #[.int .i64 a0_0, .int .i64 a0_1, .int .i64 a0_2] 35 (0, 0))) ∧ Aside0 (Below w.heap.size w wc))
 case first =>
  have H := HC3.out
  clear HC3
  by_cases c6 : a0_0 = 1
  ·rw [if_pos c6] at H
   have c6b0 : (a0_0 == 1) = true := beq_iff_eq.mpr c6
   have c6b1 : (a0_0 != 1) = false := bne_eq_false_iff_eq.mpr c6
   clear c6
   (first | rw [c6b0] | (simp only [i64_w, i32_w]; rw [c6b0]) | skip)
   have H' := Aside0.mk H
   clear H
   go_wp2
   (first | go_meet | (refine Met.intro ?_; go_step; (repeat apply Exists.intro); refine ⟨?rel, ?fr_⟩; (case fr_ => first | (simp only [c6b1, c6b0]; done) | (simp only [c6b1, c6b0]; rfl) | (simp only [c6b1, c6b0]; rfl))))
   case rel => exact ⟨_, ((a0_0 == 1)), wrE, H', ⟨by first | omega | exact Nat.le_refl _⟩, ⟨bk⟩, ⟨bw⟩⟩
  ·rw [if_neg c6] at H
   have c6b0 : (a0_0 == 1) = false := beq_eq_false_iff_ne.mpr c6
   have c6b1 : (a0_0 != 1) = true := bne_iff_ne.mpr c6
   (first | rw [c6b0] | (simp only [i64_w, i32_w]; rw [c6b0]) | skip)
   by_cases c7 : a0_0 = 2
   ·rw [if_pos c7] at H
    have c7b0 : (a0_0 == 2) = true := beq_iff_eq.mpr c7
    have c7b1 : (a0_0 != 2) = false := bne_eq_false_iff_eq.mpr c7
    clear c7
    have H' := Aside0.mk H
    clear H
    go_wp2
    (first | go_meet | (refine Met.intro ?_; go_step; (repeat apply Exists.intro); refine ⟨?rel, ?fr_⟩; (case fr_ => first | (simp only [c7b1, c7b0, c6b1, c6b0]; done) | (simp only [c7b1, c7b0, c6b1, c6b0]; rfl) | (simp only [c7b1, c7b0, c6b1, c6b0]; rfl))))
    case rel => exact ⟨_, ((a0_0 == 2)), wrE, H', ⟨by first | omega | exact Nat.le_refl _⟩, ⟨bk⟩, ⟨bw⟩⟩
   ·rw [if_neg c7] at H
    have c7b0 : (a0_0 == 2) = false := beq_eq_false_iff_ne.mpr c7
    have c7b1 : (a0_0 != 2) = true := bne_iff_ne.mpr c7
    by_cases c8 : a0_0 = 4
    ·rw [if_pos c8] at H
     have c8b0 : (a0_0 == 4) = true := beq_iff_eq.mpr c8
     have c8b1 : (a0_0 != 4) = false := bne_eq_false_iff_eq.mpr c8
     clear c8
     have H' := Aside0.mk H
     clear H
     go_wp2
     (first | go_meet | (refine Met.intro ?_; go_step; (repeat apply Exists.intro); refine ⟨?rel, ?fr_⟩; (case fr_ => first | (simp only [c8b1, c8b0, c7b1, c7b0, c6b1, c6b0]; done) | (simp only [c8b1, c8b0, c7b1, c7b0, c6b1, c6b0]; rfl) | (simp only [c8b1, c8b0, c7b1, c7b0, c6b1, c6b0]; rfl))))
     case rel => exact ⟨_, ((a0_0 == 4)), wrE, H', ⟨by first | omega | exact Nat.le_refl _⟩, ⟨bk⟩, ⟨bw⟩⟩
    ·rw [if_neg c8] at H
     have c8b0 : (a0_0 == 4) = false := beq_eq_false_iff_ne.mpr c8
     have c8b1 : (a0_0 != 4) = true := bne_iff_ne.mpr c8
     by_cases c9 : a0_0 = 5
     ·rw [if_pos c9] at H
      have c9b0 : (a0_0 == 5) = true := beq_iff_eq.mpr c9
      have c9b1 : (a0_0 != 5) = false := bne_eq_false_iff_eq.mpr c9
      clear c9
      have H' := Aside0.mk H
      clear H
      go_wp2
      (first | go_meet | (refine Met.intro ?_; go_step; (repeat apply Exists.intro); refine ⟨?rel, ?fr_⟩; (case fr_ => first | (simp only [c9b1, c9b0, c8b1, c8b0, c7b1, c7b0, c6b1, c6b0]; done) | (simp only [c9b1, c9b0, c8b1, c8b0, c7b1, c7b0, c6b1, c6b0]; rfl) | (simp only [c9b1, c9b0, c8b1, c8b0, c7b1, c7b0, c6b1, c6b0]; rfl))))
      case rel => exact ⟨_, ((a0_0 == 5)), wrE, H', ⟨by first | omega | exact Nat.le_refl _⟩, ⟨bk⟩, ⟨bw⟩⟩
     ·rw [if_neg c9] at H
      have c9b0 : (a0_0 == 5) = false := beq_eq_false_iff_ne.mpr c9
      have c9b1 : (a0_0 != 5) = true := bne_iff_ne.mpr c9
      by_cases c10 : a0_0 = 7
      ·rw [if_pos c10] at H
       have c10b0 : (a0_0 == 7) = true := beq_iff_eq.mpr c10
       have c10b1 : (a0_0 != 7) = false := bne_eq_false_iff_eq.mpr c10
       clear c10
       have H' := Aside0.mk H
       clear H
       go_wp2
       (first | go_meet | (refine Met.intro ?_; go_step; (repeat apply Exists.intro); refine ⟨?rel, ?fr_⟩; (case fr_ => first | (simp only [c10b1, c10b0, c9b1, c9b0, c8b1, c8b0, c7b1, c7b0, c6b1, c6b0]; done) | (simp only [c10b1, c10b0, c9b1, c9b0, c8b1, c8b0, c7b1, c7b0, c6b1, c6b0]; rfl) | (simp only [c10b1, c10b0, c9b1, c9b0, c8b1, c8b0, c7b1, c7b0, c6b1, c6b0]; rfl))))
       case rel => exact ⟨_, ((a0_0 == 7)), wrE, H', ⟨by first | omega | exact Nat.le_refl _⟩, ⟨bk⟩, ⟨bw⟩⟩
      ·rw [if_neg c10] at H
       have c10b0 : (a0_0 == 7) = false := beq_eq_false_iff_ne.mpr c10
       have c10b1 : (a0_0 != 7) = true := bne_iff_ne.mpr c10
       by_cases c11 : a0_0 = 8
       ·rw [if_pos c11] at H
        have c11b0 : (a0_0 == 8) = true := beq_iff_eq.mpr c11
        have c11b1 : (a0_0 != 8) = false := bne_eq_false_iff_eq.mpr c11
        clear c11
        have H' := Aside0.mk H
        clear H
        go_wp2
        (first | go_meet | (refine Met.intro ?_; go_step; (repeat apply Exists.intro); refine ⟨?rel, ?fr_⟩; (case fr_ => first | (simp only [c11b1, c11b0, c10b1, c10b0, c9b1, c9b0, c8b1, c8b0, c7b1, c7b0, c6b1, c6b0]; done) | (simp only [c11b1, c11b0, c10b1, c10b0, c9b1, c9b0, c8b1, c8b0, c7b1, c7b0, c6b1, c6b0]; rfl) | (simp only [c11b1, c11b0, c10b1, c10b0, c9b1, c9b0, c8b1, c8b0, c7b1, c7b0, c6b1, c6b0]; rfl))))
        case rel => exact ⟨_, ((a0_0 == 8)), wrE, H', ⟨by first | omega | exact Nat.le_refl _⟩, ⟨bk⟩, ⟨bw⟩⟩
       ·rw [if_neg c11] at H
        have c11b0 : (a0_0 == 8) = false := beq_eq_false_iff_ne.mpr c11
        have c11b1 : (a0_0 != 8) = true := bne_iff_ne.mpr c11
        by_cases c12 : a0_0 = 10
        ·rw [if_pos c12] at H
         have c12b0 : (a0_0 == 10) = true := beq_iff_eq.mpr c12
         have c12b1 : (a0_0 != 10) = false := bne_eq_false_iff_eq.mpr c12
         clear c12
         have H' := Aside0.mk H
         clear H
         go_wp2
         (first | go_meet | (refine Met.intro ?_; go_step; (repeat apply Exists.intro); refine ⟨?rel, ?fr_⟩; (case fr_ => first | (simp only [c12b1, c12b0, c11b1, c11b0, c10b1, c10b0, c9b1, c9b0, c8b1, c8b0, c7b1, c7b0, c6b1, c6b0]; done) | (simp only [c12b1, c12b0, c11b1, c11b0, c10b1, c10b0, c9b1, c9b0, c8b1, c8b0, c7b1, c7b0, c6b1, c6b0]; rfl) | (simp only [c12b1, c12b0, c11b1, c11b0, c10b1, c10b0, c9b1, c9b0, c8b1, c8b0, c7b1, c7b0, c6b1, c6b0]; rfl))))
         case rel => exact ⟨_, ((a0_0 == 10)), wrE, H', ⟨by first | omega | exact Nat.le_refl _⟩, ⟨bk⟩, ⟨bw⟩⟩
        ·rw [if_neg c12] at H
         have c12b0 : (a0_0 == 10) = false := beq_eq_false_iff_ne.mpr c12
         have c12b1 : (a0_0 != 10) = true := bne_iff_ne.mpr c12
         have H' := Aside0.mk H
         clear H
         go_wp2
         (first | go_meet | (refine Met.intro ?_; go_step; (repeat apply Exists.intro); refine ⟨?rel, ?fr_⟩; (case fr_ => first | (simp only [c12b1, c12b0, c11b1, c11b0, c10b1, c10b0, c9b1, c9b0, c8b1, c8b0, c7b1, c7b0, c6b1, c6b0]; done) | (simp only [c12b1, c12b0, c11b1, c11b0, c10b1, c10b0, c9b1, c9b0, c8b1, c8b0, c7b1, c7b0, c6b1, c6b0]; rfl) | (simp only [c12b1, c12b0, c11b1, c11b0, c10b1, c10b0, c9b1, c9b0, c8b1, c8b0, c7b1, c7b0, c6b1, c6b0]; rfl))))
         case rel => exact ⟨_, ((a0_0 == 11)), wrE, H', ⟨by first | omega | exact Nat.le_refl _⟩, ⟨bk⟩, ⟨bw⟩⟩
 case rest =>
  clear HC3
  clear z5_0 z5_1 z5_2 y5_0 y5_1 y5_2
  obtain ⟨kq, x7_2, rfl, HA, HJ2, BK326, HB⟩ := hcut
  cases kq with
  | zero => exact absurd HA.out (by simp [bluebellref06_After.j0])
  | succ kj2 =>
   have H := HA.out
   clear HA
   simp only [bluebellref06_After.j0] at H
   by_cases c13 : x7_2 = true
   ·subst c13
    have H1 : (some (wrap64 (a1 + 1))) = some r := by rw [if_pos rfl] at H; exact H
    clear H
    have H := H1
    clear H1
    obtain rfl := Option.some.inj H
    go_wp2
    go_ret
    exact ⟨erE, bw⟩
   ·replace c13 := Bool.eq_false_iff.mpr c13
    subst c13
    have H1 : (if a0_0 = 3 then (bluebellref06_After.j1 kj2 a1 a0_0 (a0_0 == 3) a0_0 a0_1 a0_2) else (if a0_0 = 6 then (bluebellref06_After.j1 kj2 a1 a0_0 (a0_0 == 6) a0_0 a0_1 a0_2) else (if a0_0 = 9 then (bluebellref06_After.j1 kj2 a1 a0_0 (a0_0 == 9) a0_0 a0_1 a0_2) else (if a0_0 = 16 then (bluebellref06_After.j1 kj2 a1 a0_0 (a0_0 == 16) a0_0 a0_1 a0_2) else (if a0_0 = 14 then (bluebellref06_After.j1 kj2 a1 a0_0 (a0_0 == 14) a0_0 a0_1 a0_2) else (if a0_0 = 21 then (bluebellref06_After.j1 kj2 a1 a0_0 (a0_0 == 21) a0_0 a0_1 a0_2) else (if a0_0 = 22 then (bluebellref06_After.j1 kj2 a1 a0_0 (a0_0 == 22) a0_0 a0_1 a0_2) else (if a0_0 = 29 then (bluebellref06_After.j1 kj2 a1 a0_0 (a0_0 == 29) a0_0 a0_1 a0_2) else (if a0_0 = 25 then (bluebellref06_After.j1 kj2 a1 a0_0 (a0_0 == 25) a0_0 a0_1 a0_2) else (bluebellref06_After.j1 kj2 a1 a0_0 (a0_0 == 27) a0_0 a0_1 a0_2)))))))))) = some r := by rw [if_neg (show ¬ (false = true) by decide)] at H; exact H
    clear H
    have H := H1
    clear H1
    have HC14 := Aside0.mk H
    clear H
    go_upto_if 18 with (fail)
    go_cut [18] (fun v18 wc => ∃ (kq : Nat) (x18_13 : Bool), v18 = .bool x18_13 ∧ Aside0 (bluebellref06_After.j1 kq a1 a0_0 x18_13 a0_0 a0_1 a0_2 = some r) ∧ Aside0 (kq ≤ kj2) ∧ Aside0 (wc.heap[gb326]? = some (.cells #[.int .i64 a0_0, .int .i64 a0_1, .int .i64 a0_2] 35 (0, 0))) ∧ Aside0 (Below w.heap.size w wc))
    case first =>
     have H := HC14.out
     clear HC14
     by_cases c15 : a0_0 = 3
     ·rw [if_pos c15] at H
      have c15b0 : (a0_0 == 3) = true := beq_iff_eq.mpr c15
      have c15b1 : (a0_0 != 3) = false := bne_eq_false_iff_eq.mpr c15
      clear c15
      (first | rw [c15b0] | (simp only [i64_w, i32_w]; rw [c15b0]) | skip)
      have H' := Aside0.mk H
      clear H
      go_wp2
      (first | go_meet | (refine Met.intro ?_; go_step; (repeat apply Exists.intro); refine ⟨?rel, ?fr_⟩; (case fr_ => first | (simp only [c15b1, c15b0]; done) | (simp only [c15b1, c15b0]; rfl) | (simp only [c15b1, c15b0]; rfl))))
      case rel => exact ⟨_, ((a0_0 == 3)), wrE, H', ⟨by have := HJ2.out; first | omega | exact Nat.le_refl _⟩, ⟨bk⟩, ⟨bw⟩⟩
     ·rw [if_neg c15] at H
      have c15b0 : (a0_0 == 3) = false := beq_eq_false_iff_ne.mpr c15
      have c15b1 : (a0_0 != 3) = true := bne_iff_ne.mpr c15
      (first | rw [c15b0] | (simp only [i64_w, i32_w]; rw [c15b0]) | skip)
      by_cases c16 : a0_0 = 6
      ·rw [if_pos c16] at H
       have c16b0 : (a0_0 == 6) = true := beq_iff_eq.mpr c16
       have c16b1 : (a0_0 != 6) = false := bne_eq_false_iff_eq.mpr c16
       clear c16
       have H' := Aside0.mk H
       clear H
       go_wp2
       (first | go_meet | (refine Met.intro ?_; go_step; (repeat apply Exists.intro); refine ⟨?rel, ?fr_⟩; (case fr_ => first | (simp only [c16b1, c16b0, c15b1, c15b0]; done) | (simp only [c16b1, c16b0, c15b1, c15b0]; rfl) | (simp only [c16b1, c16b0, c15b1, c15b0]; rfl))))
       case rel => exact ⟨_, ((a0_0 == 6)), wrE, H', ⟨by have := HJ2.out; first | omega | exact Nat.le_refl _⟩, ⟨bk⟩, ⟨bw⟩⟩
      ·rw [if_neg c16] at H
       have c16b0 : (a0_0 == 6) = false := beq_eq_false_iff_ne.mpr c16
       have c16b1 : (a0_0 != 6) = true := bne_iff_ne.mpr c16
       by_cases c17 : a0_0 = 9
       ·rw [if_pos c17] at H
        have c17b0 : (a0_0 == 9) = true := beq_iff_eq.mpr c17
        have c17b1 : (a0_0 != 9) = false := bne_eq_false_iff_eq.mpr c17
        clear c17
        have H' := Aside0.mk H
        clear H
        go_wp2
        (first | go_meet | (refine Met.intro ?_; go_step; (repeat apply Exists.intro); refine ⟨?rel, ?fr_⟩; (case fr_ => first | (simp only [c17b1, c17b0, c16b1, c16b0, c15b1, c15b0]; done) | (simp only [c17b1, c17b0, c16b1, c16b0, c15b1, c15b0]; rfl) | (simp only [c17b1, c17b0, c16b1, c16b0, c15b1, c15b0]; rfl))))
        case rel => exact ⟨_, ((a0_0 == 9)), wrE, H', ⟨by have := HJ2.out; first | omega | exact Nat.le_refl _⟩, ⟨bk⟩, ⟨bw⟩⟩
       ·rw [if_neg c17] at H
        have c17b0 : (a0_0 == 9) = false := beq_eq_false_iff_ne.mpr c17
        have c17b1 : (a0_0 != 9) = true := bne_iff_ne.mpr c17
        by_cases c18 : a0_0 = 16
        ·rw [if_pos c18] at H
         have c18b0 : (a0_0 == 16) = true := beq_iff_eq.mpr c18
         have c18b1 : (a0_0 != 16) = false := bne_eq_false_iff_eq.mpr c18
         clear c18
         have H' := Aside0.mk H
         clear H
         go_wp2
         (first | go_meet | (refine Met.intro ?_; go_step; (repeat apply Exists.intro); refine ⟨?rel, ?fr_⟩; (case fr_ => first | (simp only [c18b1, c18b0, c17b1, c17b0, c16b1, c16b0, c15b1, c15b0]; done) | (simp only [c18b1, c18b0, c17b1, c17b0, c16b1, c16b0, c15b1, c15b0]; rfl) | (simp only [c18b1, c18b0, c17b1, c17b0, c16b1, c16b0, c15b1, c15b0]; rfl))))
         case rel => exact ⟨_, ((a0_0 == 16)), wrE, H', ⟨by have := HJ2.out; first | omega | exact Nat.le_refl _⟩, ⟨bk⟩, ⟨bw⟩⟩
        ·rw [if_neg c18] at H
         have c18b0 : (a0_0 == 16) = false := beq_eq_false_iff_ne.mpr c18
         have c18b1 : (a0_0 != 16) = true := bne_iff_ne.mpr c18
         by_cases c19 : a0_0 = 14
         ·rw [if_pos c19] at H
          have c19b0 : (a0_0 == 14) = true := beq_iff_eq.mpr c19
          have c19b1 : (a0_0 != 14) = false := bne_eq_false_iff_eq.mpr c19
          clear c19
          have H' := Aside0.mk H
          clear H
          go_wp2
          (first | go_meet | (refine Met.intro ?_; go_step; (repeat apply Exists.intro); refine ⟨?rel, ?fr_⟩; (case fr_ => first | (simp only [c19b1, c19b0, c18b1, c18b0, c17b1, c17b0, c16b1, c16b0, c15b1, c15b0]; done) | (simp only [c19b1, c19b0, c18b1, c18b0, c17b1, c17b0, c16b1, c16b0, c15b1, c15b0]; rfl) | (simp only [c19b1, c19b0, c18b1, c18b0, c17b1, c17b0, c16b1, c16b0, c15b1, c15b0]; rfl))))
          case rel => exact ⟨_, ((a0_0 == 14)), wrE, H', ⟨by have := HJ2.out; first | omega | exact Nat.le_refl _⟩, ⟨bk⟩, ⟨bw⟩⟩
         ·rw [if_neg c19] at H
          have c19b0 : (a0_0 == 14) = false := beq_eq_false_iff_ne.mpr c19
          have c19b1 : (a0_0 != 14) = true := bne_iff_ne.mpr c19
          by_cases c20 : a0_0 = 21
          ·rw [if_pos c20] at H
           have c20b0 : (a0_0 == 21) = true := beq_iff_eq.mpr c20
           have c20b1 : (a0_0 != 21) = false := bne_eq_false_iff_eq.mpr c20
           clear c20
           have H' := Aside0.mk H
           clear H
           go_wp2
           (first | go_meet | (refine Met.intro ?_; go_step; (repeat apply Exists.intro); refine ⟨?rel, ?fr_⟩; (case fr_ => first | (simp only [c20b1, c20b0, c19b1, c19b0, c18b1, c18b0, c17b1, c17b0, c16b1, c16b0, c15b1, c15b0]; done) | (simp only [c20b1, c20b0, c19b1, c19b0, c18b1, c18b0, c17b1, c17b0, c16b1, c16b0, c15b1, c15b0]; rfl) | (simp only [c20b1, c20b0, c19b1, c19b0, c18b1, c18b0, c17b1, c17b0, c16b1, c16b0, c15b1, c15b0]; rfl))))
           case rel => exact ⟨_, ((a0_0 == 21)), wrE, H', ⟨by have := HJ2.out; first | omega | exact Nat.le_refl _⟩, ⟨bk⟩, ⟨bw⟩⟩
          ·rw [if_neg c20] at H
           have c20b0 : (a0_0 == 21) = false := beq_eq_false_iff_ne.mpr c20
           have c20b1 : (a0_0 != 21) = true := bne_iff_ne.mpr c20
           by_cases c21 : a0_0 = 22
           ·rw [if_pos c21] at H
            have c21b0 : (a0_0 == 22) = true := beq_iff_eq.mpr c21
            have c21b1 : (a0_0 != 22) = false := bne_eq_false_iff_eq.mpr c21
            clear c21
            have H' := Aside0.mk H
            clear H
            go_wp2
            (first | go_meet | (refine Met.intro ?_; go_step; (repeat apply Exists.intro); refine ⟨?rel, ?fr_⟩; (case fr_ => first | (simp only [c21b1, c21b0, c20b1, c20b0, c19b1, c19b0, c18b1, c18b0, c17b1, c17b0, c16b1, c16b0, c15b1, c15b0]; done) | (simp only [c21b1, c21b0, c20b1, c20b0, c19b1, c19b0, c18b1, c18b0, c17b1, c17b0, c16b1, c16b0, c15b1, c15b0]; rfl) | (simp only [c21b1, c21b0, c20b1, c20b0, c19b1, c19b0, c18b1, c18b0, c17b1, c17b0, c16b1, c16b0, c15b1, c15b0]; rfl))))
            case rel => exact ⟨_, ((a0_0 == 22)), wrE, H', ⟨by have := HJ2.out; first | omega | exact Nat.le_refl _⟩, ⟨bk⟩, ⟨bw⟩⟩
           ·rw [if_neg c21] at H
            have c21b0 : (a0_0 == 22) = false := beq_eq_false_iff_ne.mpr c21
            have c21b1 : (a0_0 != 22) = true := bne_iff_ne.mpr c21
            by_cases c22 : a0_0 = 29
            ·rw [if_pos c22] at H
             have c22b0 : (a0_0 == 29) = true := beq_iff_eq.mpr c22
             have c22b1 : (a0_0 != 29) = false := bne_eq_false_iff_eq.mpr c22
             clear c22
             have H' := Aside0.mk H
             clear H
             go_wp2
             (first | go_meet | (refine Met.intro ?_; go_step; (repeat apply Exists.intro); refine ⟨?rel, ?fr_⟩; (case fr_ => first | (simp only [c22b1, c22b0, c21b1, c21b0, c20b1, c20b0, c19b1, c19b0, c18b1, c18b0, c17b1, c17b0, c16b1, c16b0, c15b1, c15b0]; done) | (simp only [c22b1, c22b0, c21b1, c21b0, c20b1, c20b0, c19b1, c19b0, c18b1, c18b0, c17b1, c17b0, c16b1, c16b0, c15b1, c15b0]; rfl) | (simp only [c22b1, c22b0, c21b1, c21b0, c20b1, c20b0, c19b1, c19b0, c18b1, c18b0, c17b1, c17b0, c16b1, c16b0, c15b1, c15b0]; rfl))))
             case rel => exact ⟨_, ((a0_0 == 29)), wrE, H', ⟨by have := HJ2.out; first | omega | exact Nat.le_refl _⟩, ⟨bk⟩, ⟨bw⟩⟩
            ·rw [if_neg c22] at H
             have c22b0 : (a0_0 == 29) = false := beq_eq_false_iff_ne.mpr c22
             have c22b1 : (a0_0 != 29) = true := bne_iff_ne.mpr c22
             by_cases c23 : a0_0 = 25
             ·rw [if_pos c23] at H
              have c23b0 : (a0_0 == 25) = true := beq_iff_eq.mpr c23
              have c23b1 : (a0_0 != 25) = false := bne_eq_false_iff_eq.mpr c23
              clear c23
              have H' := Aside0.mk H
              clear H
              go_wp2
              (first | go_meet | (refine Met.intro ?_; go_step; (repeat apply Exists.intro); refine ⟨?rel, ?fr_⟩; (case fr_ => first | (simp only [c23b1, c23b0, c22b1, c22b0, c21b1, c21b0, c20b1, c20b0, c19b1, c19b0, c18b1, c18b0, c17b1, c17b0, c16b1, c16b0, c15b1, c15b0]; done) | (simp only [c23b1, c23b0, c22b1, c22b0, c21b1, c21b0, c20b1, c20b0, c19b1, c19b0, c18b1, c18b0, c17b1, c17b0, c16b1, c16b0, c15b1, c15b0]; rfl) | (simp only [c23b1, c23b0, c22b1, c22b0, c21b1, c21b0, c20b1, c20b0, c19b1, c19b0, c18b1, c18b0, c17b1, c17b0, c16b1, c16b0, c15b1, c15b0]; rfl))))
              case rel => exact ⟨_, ((a0_0 == 25)), wrE, H', ⟨by have := HJ2.out; first | omega | exact Nat.le_refl _⟩, ⟨bk⟩, ⟨bw⟩⟩
             ·rw [if_neg c23] at H
              have c23b0 : (a0_0 == 25) = false := beq_eq_false_iff_ne.mpr c23
              have c23b1 : (a0_0 != 25) = true := bne_iff_ne.mpr c23
              have H' := Aside0.mk H
              clear H
              go_wp2
              (first | go_meet | (refine Met.intro ?_; go_step; (repeat apply Exists.intro); refine ⟨?rel, ?fr_⟩; (case fr_ => first | (simp only [c23b1, c23b0, c22b1, c22b0, c21b1, c21b0, c20b1, c20b0, c19b1, c19b0, c18b1, c18b0, c17b1, c17b0, c16b1, c16b0, c15b1, c15b0]; done) | (simp only [c23b1, c23b0, c22b1, c22b0, c21b1, c21b0, c20b1, c20b0, c19b1, c19b0, c18b1, c18b0, c17b1, c17b0, c16b1, c16b0, c15b1, c15b0]; rfl) | (simp only [c23b1, c23b0, c22b1, c22b0, c21b1, c21b0, c20b1, c20b0, c19b1, c19b0, c18b1, c18b0, c17b1, c17b0, c16b1, c16b0, c15b1, c15b0]; rfl))))
              case rel => exact ⟨_, ((a0_0 == 27)), wrE, H', ⟨by have := HJ2.out; first | omega | exact Nat.le_refl _⟩, ⟨bk⟩, ⟨bw⟩⟩
    case rest =>
     clear HC14
     obtain ⟨kq, x18_13, rfl, HA, HJ13, BK326, HB⟩ := hcut
     cases kq with
     | zero => exact absurd HA.out (by simp [bluebellref06_After.j1])
     | succ kj13 =>
      have H := HA.out
      clear HA
      simp only [bluebellref06_After.j1] at H
      by_cases c24 : x18_13 = true
      ·subst c24
       have H1 : (some (wrap64 (a1 - 1))) = some r := by rw [if_pos rfl] at H; exact H
       clear H
       have H := H1
       clear H1
       obtain rfl := Option.some.inj H
       go_wp2
       go_ret
       exact ⟨erE, bw⟩
      ·replace c24 := Bool.eq_false_iff.mpr c24
       subst c24
       have H1 : (if a0_0 = 13 then (some (wrap64 (a1 - 2))) else (if a0_0 = 15 then (some (wrap64 (a1 - 3))) else (if a0_0 = 18 then (some a0_1) else (if a0_0 = 23 then (bluebellref06_After.j2 kj13 a1 a0_0 (a0_0 == 23) a0_0 a0_1 a0_2) else (bluebellref06_After.j2 kj13 a1 a0_0 (a0_0 == 28) a0_0 a0_1 a0_2))))) = some r := by rw [if_neg (show ¬ (false = true) by decide)] at H; exact H
       clear H
       have H := H1
       clear H1
       by_cases c25 : a0_0 = 13
       ·rw [if_pos c25] at H
        have c25b0 : (a0_0 == 13) = true := beq_iff_eq.mpr c25
        have c25b1 : (a0_0 != 13) = false := bne_eq_false_iff_eq.mpr c25
        clear c25
        obtain rfl := Option.some.inj H
        go_wp2
        go_ret
        exact ⟨erE, bw⟩
       ·rw [if_neg c25] at H
        have c25b0 : (a0_0 == 13) = false := beq_eq_false_iff_ne.mpr c25
        have c25b1 : (a0_0 != 13) = true := bne_iff_ne.mpr c25
        by_cases c26 : a0_0 = 15
        ·rw [if_pos c26] at H
         have c26b0 : (a0_0 == 15) = true := beq_iff_eq.mpr c26
         have c26b1 : (a0_0 != 15) = false := bne_eq_false_iff_eq.mpr c26
         clear c26
         obtain rfl := Option.some.inj H
         go_wp2
         go_ret
         exact ⟨erE, bw⟩
        ·rw [if_neg c26] at H
         have c26b0 : (a0_0 == 15) = false := beq_eq_false_iff_ne.mpr c26
         have c26b1 : (a0_0 != 15) = true := bne_iff_ne.mpr c26
         by_cases c27 : a0_0 = 18
         ·rw [if_pos c27] at H
          have c27b0 : (a0_0 == 18) = true := beq_iff_eq.mpr c27
          have c27b1 : (a0_0 != 18) = false := bne_eq_false_iff_eq.mpr c27
          clear c27
          obtain rfl := Option.some.inj H
          obtain ⟨z28_0, z28_1, z28_2, y28_0, y28_1, y28_2⟩ := cells3 BK326.out
          go_wp2
          go_ret
          exact ⟨erE, bw⟩
         ·rw [if_neg c27] at H
          have c27b0 : (a0_0 == 18) = false := beq_eq_false_iff_ne.mpr c27
          have c27b1 : (a0_0 != 18) = true := bne_iff_ne.mpr c27
          have HC29 := Aside0.mk H
          clear H
          go_upto_if 43 with (fail)
          go_cut [43] (fun v43 wc => ∃ (kq : Nat) (x43_28 : Bool), v43 = .bool x43_28 ∧ Aside0 (bluebellref06_After.j2 kq a1 a0_0 x43_28 a0_0 a0_1 a0_2 = some r) ∧ Aside0 (kq ≤ kj13) ∧ Aside0 (wc.heap[gb326]? = some (.cells #[.int .i64 a0_0, .int .i64 a0_1, .int .i64 a0_2] 35 (0, 0))) ∧ Aside0 (Below w.heap.size w wc))
          case first =>
           have H := HC29.out
           clear HC29
           by_cases c30 : a0_0 = 23
           ·rw [if_pos c30] at H
            have c30b0 : (a0_0 == 23) = true := beq_iff_eq.mpr c30
            have c30b1 : (a0_0 != 23) = false := bne_eq_false_iff_eq.mpr c30
            clear c30
            (first | rw [c30b0] | (simp only [i64_w, i32_w]; rw [c30b0]) | skip)
            have H' := Aside0.mk H
            clear H
            go_wp2
            (first | go_meet | (refine Met.intro ?_; go_step; (repeat apply Exists.intro); refine ⟨?rel, ?fr_⟩; (case fr_ => first | (simp only [c30b1, c30b0]; done) | (simp only [c30b1, c30b0]; rfl) | (simp only [c30b1, c30b0]; rfl))))
            case rel => exact ⟨_, ((a0_0 == 23)), wrE, H', ⟨by have := HJ2.out; have := HJ13.out; first | omega | exact Nat.le_refl _⟩, ⟨bk⟩, ⟨bw⟩⟩
           ·rw [if_neg c30] at H
            have c30b0 : (a0_0 == 23) = false := beq_eq_false_iff_ne.mpr c30
            have c30b1 : (a0_0 != 23) = true := bne_iff_ne.mpr c30
            (first | rw [c30b0] | (simp only [i64_w, i32_w]; rw [c30b0]) | skip)
            have H' := Aside0.mk H
            clear H
            go_wp2
            (first | go_meet | (refine Met.intro ?_; go_step; (repeat apply Exists.intro); refine ⟨?rel, ?fr_⟩; (case fr_ => first | (simp only [c30b1, c30b0]; done) | (simp only [c30b1, c30b0]; rfl) | (simp only [c30b1, c30b0]; rfl))))
            case rel => exact ⟨_, ((a0_0 == 28)), wrE, H', ⟨by have := HJ2.out; have := HJ13.out; first | omega | exact Nat.le_refl _⟩, ⟨bk⟩, ⟨bw⟩⟩
          case rest =>
           clear HC29
           clear c25 c25b0 c25b1 c26 c26b0 c26b1 c27 c27b0 c27b1
           obtain ⟨kq, x43_28, rfl, HA, HJ28, BK326, HB⟩ := hcut
           cases kq with
           | zero => exact absurd HA.out (by simp [bluebellref06_After.j2])
           | succ kj28 =>
            have H := HA.out
            clear HA
            simp only [bluebellref06_After.j2] at H
            by_cases c31 : x43_28 = true
            ·subst c31
             have H1 : (some (wrap64 (a0_1 + 1))) = some r := by rw [if_pos rfl] at H; exact H
             clear H
             have H := H1
             clear H1
             obtain rfl := Option.some.inj H
             obtain ⟨z32_0, z32_1, z32_2, y32_0, y32_1, y32_2⟩ := cells3 BK326.out
             go_wp2
             go_ret
             exact ⟨erE, bw⟩
            ·replace c31 := Bool.eq_false_iff.mpr c31
             subst c31
             have H1 : (if a0_0 = 24 then (some (wrap64 (2 + a0_2))) else (some a1)) = some r := by rw [if_neg (show ¬ (false = true) by decide)] at H; exact H
             clear H
             have H := H1
             clear H1
             by_cases c33 : a0_0 = 24
             ·rw [if_pos c33] at H
              have c33b0 : (a0_0 == 24) = true := beq_iff_eq.mpr c33
              have c33b1 : (a0_0 != 24) = false := bne_eq_false_iff_eq.mpr c33
              clear c33
              obtain rfl := Option.some.inj H
              obtain ⟨z34_0, z34_1, z34_2, y34_0, y34_1, y34_2⟩ := cells3 BK326.out
              go_wp2
              go_ret
              exact ⟨erE, bw⟩
             ·rw [if_neg c33] at H
              have c33b0 : (a0_0 == 24) = false := beq_eq_false_iff_ne.mpr c33
              have c33b1 : (a0_0 != 24) = true := bne_iff_ne.mpr c33
              obtain rfl := Option.some.inj H
              go_wp2
              go_ret
              exact ⟨erE, bw⟩



/-! ### bluebellref06_needs: function 73 -/
mutual
def bluebellref06_needs.j0 : Nat → Int → Bool → Option (Int)
 | 0, _, _ => none
 | k + 1, x4, x5 => if x5 = true then (some 1) else (if x4 = 16 then (bluebellref06_needs.j1 k x4 (x4 == 16)) else (if x4 = 14 then (bluebellref06_needs.j1 k x4 (x4 == 14)) else (bluebellref06_needs.j1 k x4 (x4 == 13))))
def bluebellref06_needs.j1 : Nat → Int → Bool → Option (Int)
 | 0, _, _ => none
 | k + 1, x4, x16 => if x16 = true then (some 2) else (if x4 = 15 then (some 3) else (some 0))
end
def bluebellref06_needs.f (k : Nat) (a0_0 : Int) (a0_1 : Int) (a0_2 : Int) : Option (Int) := if a0_0 = 3 then (bluebellref06_needs.j0 k a0_0 (a0_0 == 3)) else (if a0_0 = 6 then (bluebellref06_needs.j0 k a0_0 (a0_0 == 6)) else (if a0_0 = 9 then (bluebellref06_needs.j0 k a0_0 (a0_0 == 9)) else (if a0_0 = 12 then (bluebellref06_needs.j0 k a0_0 (a0_0 == 12)) else (if a0_0 = 17 then (bluebellref06_needs.j0 k a0_0 (a0_0 == 17)) else (if a0_0 = 21 then (bluebellref06_needs.j0 k a0_0 (a0_0 == 21)) else (if a0_0 = 22 then (bluebellref06_needs.j0 k a0_0 (a0_0 == 22)) else (if a0_0 = 29 then (bluebellref06_needs.j0 k a0_0 (a0_0 == 29)) else (if a0_0 = 25 then (bluebellref06_needs.j0 k a0_0 (a0_0 == 25)) else (bluebellref06_needs.j0 k a0_0 (a0_0 == 27))))))))))
theorem bluebellref06_needs.mono_l : ∀ k, (∀ y0 y1, LeO (bluebellref06_needs.j0 k y0 y1) (bluebellref06_needs.j0 (k + 1) y0 y1)) ∧ (∀ y0 y1, LeO (bluebellref06_needs.j1 k y0 y1) (bluebellref06_needs.j1 (k + 1) y0 y1))
 | 0 => ⟨fun _ _ r h => by simp [bluebellref06_needs.j0] at h, fun _ _ r h => by simp [bluebellref06_needs.j1] at h⟩
 | k + 1 => by
  obtain ⟨ih0, ih1⟩ := bluebellref06_needs.mono_l k
  refine ⟨?_, ?_⟩
  ·intro y0 y1
   unfold bluebellref06_needs.j0
   repeat' first
   | (with_reducible exact ih0 _ _)
   | (with_reducible exact ih1 _ _)
   | (with_reducible exact LeO.refl _)
   | (with_reducible exact LeO.none _)
   | (with_reducible refine LeO.ite ?_ ?_)
   | (with_reducible refine LeO.bind ?_ (fun _ => ?_))
   | exact ih0 _ _
   | exact ih1 _ _
   | exact LeO.none _
   | refine LeO.ite ?_ ?_
   | refine LeO.bind ?_ (fun _ => ?_)
  ·intro y0 y1
   unfold bluebellref06_needs.j1
   repeat' first
   | (with_reducible exact ih0 _ _)
   | (with_reducible exact ih1 _ _)
   | (with_reducible exact LeO.refl _)
   | (with_reducible exact LeO.none _)
   | (with_reducible refine LeO.ite ?_ ?_)
   | (with_reducible refine LeO.bind ?_ (fun _ => ?_))
   | exact ih0 _ _
   | exact ih1 _ _
   | exact LeO.none _
   | refine LeO.ite ?_ ?_
   | refine LeO.bind ?_ (fun _ => ?_)
theorem bluebellref06_needs.mono : ∀ a0 a1 a2 k, LeO (bluebellref06_needs.f k a0 a1 a2) (bluebellref06_needs.f (k + 1) a0 a1 a2) := by
 intro a0 a1 a2 k
 obtain ⟨ih0, ih1⟩ := bluebellref06_needs.mono_l k
 unfold bluebellref06_needs.f
 repeat' first
   | (with_reducible exact ih0 _ _)
   | (with_reducible exact ih1 _ _)
   | (with_reducible exact LeO.refl _)
   | (with_reducible exact LeO.none _)
   | (with_reducible refine LeO.ite ?_ ?_)
   | (with_reducible refine LeO.bind ?_ (fun _ => ?_))
   | exact ih0 _ _
   | exact ih1 _ _
   | exact LeO.none _
   | refine LeO.ite ?_ ?_
   | refine LeO.bind ?_ (fun _ => ?_)
set_option maxHeartbeats 8000000 in
set_option maxRecDepth 100000 in
theorem bluebellref06_needs.calls (k : Nat) (a0_0 : Int) (a0_1 : Int) (a0_2 : Int) (r : Int) (w : World) (h : bluebellref06_needs.f k a0_0 a0_1 a0_2 = some r) :
  Calls Try.prog 73 #[.agg #[.int .i64 a0_0, .int .i64 a0_1, .int .i64 a0_2]] w fun e w' => e = .returned (.int .i64 r) ∧ Below w.heap.size w w' := by
 have hu35 := Try.underlying35
 have HB := Aside0.mk (Below.refl w.heap.size w)
 have H : (if a0_0 = 3 then (bluebellref06_needs.j0 k a0_0 (a0_0 == 3)) else (if a0_0 = 6 then (bluebellref06_needs.j0 k a0_0 (a0_0 == 6)) else (if a0_0 = 9 then (bluebellref06_needs.j0 k a0_0 (a0_0 == 9)) else (if a0_0 = 12 then (bluebellref06_needs.j0 k a0_0 (a0_0 == 12)) else (if a0_0 = 17 then (bluebellref06_needs.j0 k a0_0 (a0_0 == 17)) else (if a0_0 = 21 then (bluebellref06_needs.j0 k a0_0 (a0_0 == 21)) else (if a0_0 = 22 then (bluebellref06_needs.j0 k a0_0 (a0_0 == 22)) else (if a0_0 = 29 then (bluebellref06_needs.j0 k a0_0 (a0_0 == 29)) else (if a0_0 = 25 then (bluebellref06_needs.j0 k a0_0 (a0_0 == 25)) else (bluebellref06_needs.j0 k a0_0 (a0_0 == 27))))))))))) = some r := h
 clear h
 have HC2 := Aside0.mk H
 clear H
 go_enter Try.func73, Try.ntmps73
 go_upto_if 5 with (first | ((with_reducible refine gate_dst (N := 1) rfl ?_); refine boxev (N := 1) (cs := #[.int .i64 a0_0, .int .i64 a0_1, .int .i64 a0_2]) (t := 35) ?_; intro gb430 hg w3 hbox hb; have BK430 := Aside0.mk (hbox); have GW430 := Aside0.mk ((by rw [hg]; exact bsz : w.heap.size ≤ gb430)); have GE430 := Aside0.mk ((by rw [hg]; exact bsz : w.heap.size ≤ gb430)); replace HB := Aside0.mk (bstep hb); clear hb hbox hg; obtain ⟨z4_0, z4_1, z4_2, y4_0, y4_1, y4_2⟩ := cells3 BK430.out))
 (try simp only [Act.put, List.setIfInBounds_toArray, List.set_cons_zero, List.set_cons_succ])
 go_cut [5] (fun v5 wc => ∃ (kq : Nat) (x5_1 : Bool), v5 = .bool x5_1 ∧ Aside0 (bluebellref06_needs.j0 kq a0_0 x5_1 = some r) ∧ Aside0 (kq ≤ k) ∧ Aside0 (wc.heap[gb430]? = some (.cells #[.int .i64 a0_0, .int .i64 a0_1, .int .i64 a0_2] 35 (0, 0))) ∧ Aside0 (Below w.heap.size w wc))
 case first =>
  have H := HC2.out
  clear HC2
  by_cases c5 : a0_0 = 3
  ·rw [if_pos c5] at H
   have c5b0 : (a0_0 == 3) = true := beq_iff_eq.mpr c5
   clear c5
   (first | rw [c5b0] | (simp only [i64_w, i32_w]; rw [c5b0]) | skip)
   have H' := Aside0.mk H
   clear H
   go_wp2
   (first | go_meet | (refine Met.intro ?_; go_step; (repeat apply Exists.intro); refine ⟨?rel, ?fr_⟩; (case fr_ => first | (simp only [c5b1, c5b0]; done) | (simp only [c5b1, c5b0]; rfl) | (simp only [c5b1, c5b0]; rfl))))
   case rel => exact ⟨_, ((a0_0 == 3)), wrE, H', ⟨by first | omega | exact Nat.le_refl _⟩, ⟨bk⟩, ⟨bw⟩⟩
  ·rw [if_neg c5] at H
   have c5b0 : (a0_0 == 3) = false := beq_eq_false_iff_ne.mpr c5
   (first | rw [c5b0] | (simp only [i64_w, i32_w]; rw [c5b0]) | skip)
   by_cases c6 : a0_0 = 6
   ·rw [if_pos c6] at H
    have c6b0 : (a0_0 == 6) = true := beq_iff_eq.mpr c6
    clear c6
    have H' := Aside0.mk H
    clear H
    go_wp2
    (first | go_meet | (refine Met.intro ?_; go_step; (repeat apply Exists.intro); refine ⟨?rel, ?fr_⟩; (case fr_ => first | (simp only [c6b1, c6b0, c5b1, c5b0]; done) | (simp only [c6b1, c6b0, c5b1, c5b0]; rfl) | (simp only [c6b1, c6b0, c5b1, c5b0]; rfl))))
    case rel => exact ⟨_, ((a0_0 == 6)), wrE, H', ⟨by first | omega | exact Nat.le_refl _⟩, ⟨bk⟩, ⟨bw⟩⟩
   ·rw [if_neg c6] at H
    have c6b0 : (a0_0 == 6) = false := beq_eq_false_iff_ne.mpr c6
    by_cases c7 : a0_0 = 9
    ·rw [if_pos c7] at H
     have c7b0 : (a0_0 == 9) = true := beq_iff_eq.mpr c7
     clear c7
     have H' := Aside0.mk H
     clear H
     go_wp2
     (first | go_meet | (refine Met.intro ?_; go_step; (repeat apply Exists.intro); refine ⟨?rel, ?fr_⟩; (case fr_ => first | (simp only [c7b1, c7b0, c6b1, c6b0, c5b1, c5b0]; done) | (simp only [c7b1, c7b0, c6b1, c6b0, c5b1, c5b0]; rfl) | (simp only [c7b1, c7b0, c6b1, c6b0, c5b1, c5b0]; rfl))))
     case rel => exact ⟨_, ((a0_0 == 9)), wrE, H', ⟨by first | omega | exact Nat.le_refl _⟩, ⟨bk⟩, ⟨bw⟩⟩
    ·rw [if_neg c7] at H
     have c7b0 : (a0_0 == 9) = false := beq_eq_false_iff_ne.mpr c7
     by_cases c8 : a0_0 = 12
     ·rw [if_pos c8] at H
      have c8b0 : (a0_0 == 12) = true := beq_iff_eq.mpr c8
      clear c8
      have H' := Aside0.mk H
      clear H
      go_wp2
      (first | go_meet | (refine Met.intro ?_; go_step; (repeat apply Exists.intro); refine ⟨?rel, ?fr_⟩; (case fr_ => first | (simp only [c8b1, c8b0, c7b1, c7b0, c6b1, c6b0, c5b1, c5b0]; done) | (simp only [c8b1, c8b0, c7b1, c7b0, c6b1, c6b0, c5b1, c5b0]; rfl) | (simp only [c8b1, c8b0, c7b1, c7b0, c6b1, c6b0, c5b1, c5b0]; rfl))))
      case rel => exact ⟨_, ((a0_0 == 12)), wrE, H', ⟨by first | omega | exact Nat.le_refl _⟩, ⟨bk⟩, ⟨bw⟩⟩
     ·rw [if_neg c8] at H
      have c8b0 : (a0_0 == 12) = false := beq_eq_false_iff_ne.mpr c8
      by_cases c9 : a0_0 = 17
      ·rw [if_pos c9] at H
       have c9b0 : (a0_0 == 17) = true := beq_iff_eq.mpr c9
       clear c9
       have H' := Aside0.mk H
       clear H
       go_wp2
       (first | go_meet | (refine Met.intro ?_; go_step; (repeat apply Exists.intro); refine ⟨?rel, ?fr_⟩; (case fr_ => first | (simp only [c9b1, c9b0, c8b1, c8b0, c7b1, c7b0, c6b1, c6b0, c5b1, c5b0]; done) | (simp only [c9b1, c9b0, c8b1, c8b0, c7b1, c7b0, c6b1, c6b0, c5b1, c5b0]; rfl) | (simp only [c9b1, c9b0, c8b1, c8b0, c7b1, c7b0, c6b1, c6b0, c5b1, c5b0]; rfl))))
       case rel => exact ⟨_, ((a0_0 == 17)), wrE, H', ⟨by first | omega | exact Nat.le_refl _⟩, ⟨bk⟩, ⟨bw⟩⟩
      ·rw [if_neg c9] at H
       have c9b0 : (a0_0 == 17) = false := beq_eq_false_iff_ne.mpr c9
       by_cases c10 : a0_0 = 21
       ·rw [if_pos c10] at H
        have c10b0 : (a0_0 == 21) = true := beq_iff_eq.mpr c10
        clear c10
        have H' := Aside0.mk H
        clear H
        go_wp2
        (first | go_meet | (refine Met.intro ?_; go_step; (repeat apply Exists.intro); refine ⟨?rel, ?fr_⟩; (case fr_ => first | (simp only [c10b1, c10b0, c9b1, c9b0, c8b1, c8b0, c7b1, c7b0, c6b1, c6b0, c5b1, c5b0]; done) | (simp only [c10b1, c10b0, c9b1, c9b0, c8b1, c8b0, c7b1, c7b0, c6b1, c6b0, c5b1, c5b0]; rfl) | (simp only [c10b1, c10b0, c9b1, c9b0, c8b1, c8b0, c7b1, c7b0, c6b1, c6b0, c5b1, c5b0]; rfl))))
        case rel => exact ⟨_, ((a0_0 == 21)), wrE, H', ⟨by first | omega | exact Nat.le_refl _⟩, ⟨bk⟩, ⟨bw⟩⟩
       ·rw [if_neg c10] at H
        have c10b0 : (a0_0 == 21) = false := beq_eq_false_iff_ne.mpr c10
        by_cases c11 : a0_0 = 22
        ·rw [if_pos c11] at H
         have c11b0 : (a0_0 == 22) = true := beq_iff_eq.mpr c11
         clear c11
         have H' := Aside0.mk H
         clear H
         go_wp2
         (first | go_meet | (refine Met.intro ?_; go_step; (repeat apply Exists.intro); refine ⟨?rel, ?fr_⟩; (case fr_ => first | (simp only [c11b1, c11b0, c10b1, c10b0, c9b1, c9b0, c8b1, c8b0, c7b1, c7b0, c6b1, c6b0, c5b1, c5b0]; done) | (simp only [c11b1, c11b0, c10b1, c10b0, c9b1, c9b0, c8b1, c8b0, c7b1, c7b0, c6b1, c6b0, c5b1, c5b0]; rfl) | (simp only [c11b1, c11b0, c10b1, c10b0, c9b1, c9b0, c8b1, c8b0, c7b1, c7b0, c6b1, c6b0, c5b1, c5b0]; rfl))))
         case rel => exact ⟨_, ((a0_0 == 22)), wrE, H', ⟨by first | omega | exact Nat.le_refl _⟩, ⟨bk⟩, ⟨bw⟩⟩
        ·rw [if_neg c11] at H
         have c11b0 : (a0_0 == 22) = false := beq_eq_false_iff_ne.mpr c11
         by_cases c12 : a0_0 = 29
         ·rw [if_pos c12] at H
          have c12b0 : (a0_0 == 29) = true := beq_iff_eq.mpr c12
          clear c12
          have H' := Aside0.mk H
          clear H
          go_wp2
          (first | go_meet | (refine Met.intro ?_; go_step; (repeat apply Exists.intro); refine ⟨?rel, ?fr_⟩; (case fr_ => first | (simp only [c12b1, c12b0, c11b1, c11b0, c10b1, c10b0, c9b1, c9b0, c8b1, c8b0, c7b1, c7b0, c6b1, c6b0, c5b1, c5b0]; done) | (simp only [c12b1, c12b0, c11b1, c11b0, c10b1, c10b0, c9b1, c9b0, c8b1, c8b0, c7b1, c7b0, c6b1, c6b0, c5b1, c5b0]; rfl) | (simp only [c12b1, c12b0, c11b1, c11b0, c10b1, c10b0, c9b1, c9b0, c8b1, c8b0, c7b1, c7b0, c6b1, c6b0, c5b1, c5b0]; rfl))))
          case rel => exact ⟨_, ((a0_0 == 29)), wrE, H', ⟨by first | omega | exact Nat.le_refl _⟩, ⟨bk⟩, ⟨bw⟩⟩
         ·rw [if_neg c12] at H
          have c12b0 : (a0_0 == 29) = false := beq_eq_false_iff_ne.mpr c12
          by_cases c13 : a0_0 = 25
          ·rw [if_pos c13] at H
           have c13b0 : (a0_0 == 25) = true := beq_iff_eq.mpr c13
           clear c13
           have H' := Aside0.mk H
           clear H
           go_wp2
           (first | go_meet | (refine Met.intro ?_; go_step; (repeat apply Exists.intro); refine ⟨?rel, ?fr_⟩; (case fr_ => first | (simp only [c13b1, c13b0, c12b1, c12b0, c11b1, c11b0, c10b1, c10b0, c9b1, c9b0, c8b1, c8b0, c7b1, c7b0, c6b1, c6b0, c5b1, c5b0]; done) | (simp only [c13b1, c13b0, c12b1, c12b0, c11b1, c11b0, c10b1, c10b0, c9b1, c9b0, c8b1, c8b0, c7b1, c7b0, c6b1, c6b0, c5b1, c5b0]; rfl) | (simp only [c13b1, c13b0, c12b1, c12b0, c11b1, c11b0, c10b1, c10b0, c9b1, c9b0, c8b1, c8b0, c7b1, c7b0, c6b1, c6b0, c5b1, c5b0]; rfl))))
           case rel => exact ⟨_, ((a0_0 == 25)), wrE, H', ⟨by first | omega | exact Nat.le_refl _⟩, ⟨bk⟩, ⟨bw⟩⟩
          ·rw [if_neg c13] at H
           have c13b0 : (a0_0 == 25) = false := beq_eq_false_iff_ne.mpr c13
           have H' := Aside0.mk H
           clear H
           go_wp2
           (first | go_meet | (refine Met.intro ?_; go_step; (repeat apply Exists.intro); refine ⟨?rel, ?fr_⟩; (case fr_ => first | (simp only [c13b1, c13b0, c12b1, c12b0, c11b1, c11b0, c10b1, c10b0, c9b1, c9b0, c8b1, c8b0, c7b1, c7b0, c6b1, c6b0, c5b1, c5b0]; done) | (simp only [c13b1, c13b0, c12b1, c12b0, c11b1, c11b0, c10b1, c10b0, c9b1, c9b0, c8b1, c8b0, c7b1, c7b0, c6b1, c6b0, c5b1, c5b0]; rfl) | (simp only [c13b1, c13b0, c12b1, c12b0, c11b1, c11b0, c10b1, c10b0, c9b1, c9b0, c8b1, c8b0, c7b1, c7b0, c6b1, c6b0, c5b1, c5b0]; rfl))))
           case rel => exact ⟨_, ((a0_0 == 27)), wrE, H', ⟨by first | omega | exact Nat.le_refl _⟩, ⟨bk⟩, ⟨bw⟩⟩
 case rest =>
  clear HC2
  clear z4_0 z4_1 z4_2 y4_0 y4_1 y4_2
  obtain ⟨kq, x5_1, rfl, HA, HJ1, BK430, HB⟩ := hcut
  cases kq with
  | zero => exact absurd HA.out (by simp [bluebellref06_needs.j0])
  | succ kj1 =>
   have H := HA.out
   clear HA
   simp only [bluebellref06_needs.j0] at H
   by_cases c14 : x5_1 = true
   ·subst c14
    have H1 : (some 1) = some r := by rw [if_pos rfl] at H; exact H
    clear H
    have H := H1
    clear H1
    obtain rfl := Option.some.inj H
    go_wp2
    go_ret
    exact ⟨erE, bw⟩
   ·replace c14 := Bool.eq_false_iff.mpr c14
    subst c14
    have H1 : (if a0_0 = 16 then (bluebellref06_needs.j1 kj1 a0_0 (a0_0 == 16)) else (if a0_0 = 14 then (bluebellref06_needs.j1 kj1 a0_0 (a0_0 == 14)) else (bluebellref06_needs.j1 kj1 a0_0 (a0_0 == 13)))) = some r := by rw [if_neg (show ¬ (false = true) by decide)] at H; exact H
    clear H
    have H := H1
    clear H1
    have HC15 := Aside0.mk H
    clear H
    go_upto_if 16 with (fail)
    go_cut [16] (fun v16 wc => ∃ (kq : Nat) (x16_14 : Bool), v16 = .bool x16_14 ∧ Aside0 (bluebellref06_needs.j1 kq a0_0 x16_14 = some r) ∧ Aside0 (kq ≤ kj1) ∧ Aside0 (wc.heap[gb430]? = some (.cells #[.int .i64 a0_0, .int .i64 a0_1, .int .i64 a0_2] 35 (0, 0))) ∧ Aside0 (Below w.heap.size w wc))
    case first =>
     have H := HC15.out
     clear HC15
     by_cases c16 : a0_0 = 16
     ·rw [if_pos c16] at H
      have c16b0 : (a0_0 == 16) = true := beq_iff_eq.mpr c16
      clear c16
      (first | rw [c16b0] | (simp only [i64_w, i32_w]; rw [c16b0]) | skip)
      have H' := Aside0.mk H
      clear H
      go_wp2
      (first | go_meet | (refine Met.intro ?_; go_step; (repeat apply Exists.intro); refine ⟨?rel, ?fr_⟩; (case fr_ => first | (simp only [c16b1, c16b0]; done) | (simp only [c16b1, c16b0]; rfl) | (simp only [c16b1, c16b0]; rfl))))
      case rel => exact ⟨_, ((a0_0 == 16)), wrE, H', ⟨by have := HJ1.out; first | omega | exact Nat.le_refl _⟩, ⟨bk⟩, ⟨bw⟩⟩
     ·rw [if_neg c16] at H
      have c16b0 : (a0_0 == 16) = false := beq_eq_false_iff_ne.mpr c16
      (first | rw [c16b0] | (simp only [i64_w, i32_w]; rw [c16b0]) | skip)
      by_cases c17 : a0_0 = 14
      ·rw [if_pos c17] at H
       have c17b0 : (a0_0 == 14) = true := beq_iff_eq.mpr c17
       clear c17
       have H' := Aside0.mk H
       clear H
       go_wp2
       (first | go_meet | (refine Met.intro ?_; go_step; (repeat apply Exists.intro); refine ⟨?rel, ?fr_⟩; (case fr_ => first | (simp only [c17b1, c17b0, c16b1, c16b0]; done) | (simp only [c17b1, c17b0, c16b1, c16b0]; rfl) | (simp only [c17b1, c17b0, c16b1, c16b0]; rfl))))
       case rel => exact ⟨_, ((a0_0 == 14)), wrE, H', ⟨by have := HJ1.out; first | omega | exact Nat.le_refl _⟩, ⟨bk⟩, ⟨bw⟩⟩
      ·rw [if_neg c17] at H
       have c17b0 : (a0_0 == 14) = false := beq_eq_false_iff_ne.mpr c17
       have H' := Aside0.mk H
       clear H
       go_wp2
       (first | go_meet | (refine Met.intro ?_; go_step; (repeat apply Exists.intro); refine ⟨?rel, ?fr_⟩; (case fr_ => first | (simp only [c17b1, c17b0, c16b1, c16b0]; done) | (simp only [c17b1, c17b0, c16b1, c16b0]; rfl) | (simp only [c17b1, c17b0, c16b1, c16b0]; rfl))))
       case rel => exact ⟨_, ((a0_0 == 13)), wrE, H', ⟨by have := HJ1.out; first | omega | exact Nat.le_refl _⟩, ⟨bk⟩, ⟨bw⟩⟩
    case rest =>
     clear HC15
     obtain ⟨kq, x16_14, rfl, HA, HJ14, BK430, HB⟩ := hcut
     cases kq with
     | zero => exact absurd HA.out (by simp [bluebellref06_needs.j1])
     | succ kj14 =>
      have H := HA.out
      clear HA
      simp only [bluebellref06_needs.j1] at H
      by_cases c18 : x16_14 = true
      ·subst c18
       have H1 : (some 2) = some r := by rw [if_pos rfl] at H; exact H
       clear H
       have H := H1
       clear H1
       obtain rfl := Option.some.inj H
       go_wp2
       go_ret
       exact ⟨erE, bw⟩
      ·replace c18 := Bool.eq_false_iff.mpr c18
       subst c18
       have H1 : (if a0_0 = 15 then (some 3) else (some 0)) = some r := by rw [if_neg (show ¬ (false = true) by decide)] at H; exact H
       clear H
       have H := H1
       clear H1
       by_cases c19 : a0_0 = 15
       ·rw [if_pos c19] at H
        have c19b0 : (a0_0 == 15) = true := beq_iff_eq.mpr c19
        clear c19
        obtain rfl := Option.some.inj H
        go_wp2
        go_ret
        exact ⟨erE, bw⟩
       ·rw [if_neg c19] at H
        have c19b0 : (a0_0 == 15) = false := beq_eq_false_iff_ne.mpr c19
        obtain rfl := Option.some.inj H
        go_wp2
        go_ret
        exact ⟨erE, bw⟩



/-! ### bluebellref06_local: function 74 -/
def bluebellref06_local.j0 : Nat → Int → Int → Bool → Int → Int → Int → Option (Bool)
 | 0, _, _, _, _, _, _ => none
 | k + 1, x1, x6, x7, p0, p1, p2 => if x7 = true then ((bluebellref06_in.f p1 2 (wrap64 (x1 - 1))).bind fun t432 => (some t432)) else (if x6 = 4 then (some (decide (p1 ≥ 2))) else (if x6 = 23 then ((bluebellref06_in.f p1 2 (wrap64 (x1 - 3))).bind fun t433 => (some t433)) else (if x6 = 18 then (some (decide (p1 ≤ (wrap64 ((wrap64 (x1 + 2000)) + 2))))) else (some true))))
def bluebellref06_local.f (k : Nat) (a0_0 : Int) (a0_1 : Int) (a0_2 : Int) (a1 : Int) : Option (Bool) := if a0_0 = 2 then (bluebellref06_local.j0 k a1 a0_0 (a0_0 == 2) a0_0 a0_1 a0_2) else (bluebellref06_local.j0 k a1 a0_0 (a0_0 == 3) a0_0 a0_1 a0_2)
theorem bluebellref06_local.mono_l : ∀ k, (∀ y0 y1 y2 y3 y4 y5, LeO (bluebellref06_local.j0 k y0 y1 y2 y3 y4 y5) (bluebellref06_local.j0 (k + 1) y0 y1 y2 y3 y4 y5))
 | 0 => fun _ _ _ _ _ _ r h => by simp [bluebellref06_local.j0] at h
 | k + 1 => by
  have ih0 := bluebellref06_local.mono_l k
  ·intro y0 y1 y2 y3 y4 y5
   unfold bluebellref06_local.j0
   repeat' first
   | (with_reducible exact ih0 _ _ _ _ _ _)
   | (with_reducible exact LeO.refl _)
   | (with_reducible exact LeO.none _)
   | (with_reducible refine LeO.ite ?_ ?_)
   | (with_reducible refine LeO.bind ?_ (fun _ => ?_))
   | exact ih0 _ _ _ _ _ _
   | exact LeO.none _
   | refine LeO.ite ?_ ?_
   | refine LeO.bind ?_ (fun _ => ?_)
theorem bluebellref06_local.mono : ∀ a0 a1 a2 a3 k, LeO (bluebellref06_local.f k a0 a1 a2 a3) (bluebellref06_local.f (k + 1) a0 a1 a2 a3) := by
 intro a0 a1 a2 a3 k
 have ih0 := bluebellref06_local.mono_l k
 unfold bluebellref06_local.f
 repeat' first
   | (with_reducible exact ih0 _ _ _ _ _ _)
   | (with_reducible exact LeO.refl _)
   | (with_reducible exact LeO.none _)
   | (with_reducible refine LeO.ite ?_ ?_)
   | (with_reducible refine LeO.bind ?_ (fun _ => ?_))
   | exact ih0 _ _ _ _ _ _
   | exact LeO.none _
   | refine LeO.ite ?_ ?_
   | refine LeO.bind ?_ (fun _ => ?_)
set_option maxHeartbeats 8000000 in
set_option maxRecDepth 100000 in
theorem bluebellref06_local.calls (k : Nat) (a0_0 : Int) (a0_1 : Int) (a0_2 : Int) (a1 : Int) (r : Bool) (w : World) (h : bluebellref06_local.f k a0_0 a0_1 a0_2 a1 = some r) :
  Calls Try.prog 74 #[.agg #[.int .i64 a0_0, .int .i64 a0_1, .int .i64 a0_2], .int .i64 a1] w fun e w' => e = .returned (.bool r) ∧ Below w.heap.size w w' := by
 have hu35 := Try.underlying35
 have HB := Aside0.mk (Below.refl w.heap.size w)
 have H : (if a0_0 = 2 then (bluebellref06_local.j0 k a1 a0_0 (a0_0 == 2) a0_0 a0_1 a0_2) else (bluebellref06_local.j0 k a1 a0_0 (a0_0 == 3) a0_0 a0_1 a0_2)) = some r := h
 clear h
 have HC3 := Aside0.mk H
 clear H
 go_enter Try.func74, Try.ntmps74
 go_upto_if 7 with (first | ((with_reducible refine gate_dst (N := 2) rfl ?_); refine boxev (N := 2) (cs := #[.int .i64 a0_0, .int .i64 a0_1, .int .i64 a0_2]) (t := 35) ?_; intro gb431 hg w4 hbox hb; have BK431 := Aside0.mk (hbox); have GW431 := Aside0.mk ((by rw [hg]; exact bsz : w.heap.size ≤ gb431)); have GE431 := Aside0.mk ((by rw [hg]; exact bsz : w.heap.size ≤ gb431)); replace HB := Aside0.mk (bstep hb); clear hb hbox hg; obtain ⟨z5_0, z5_1, z5_2, y5_0, y5_1, y5_2⟩ := cells3 BK431.out))
 (try simp only [Act.put, List.setIfInBounds_toArray, List.set_cons_zero, List.set_cons_succ])
 go_cut [7] (fun v7 wc => ∃ (kq : Nat) (x7_2 : Bool), v7 = .bool x7_2 ∧ Aside0 (bluebellref06_local.j0 kq a1 a0_0 x7_2 a0_0 a0_1 a0_2 = some r) ∧ Aside0 (kq ≤ k) ∧ Aside0 (wc.heap[gb431]? = some (.cells #[.int .i64 a0_0, .int .i64 a0_1, .int .i64 a0_2] 35 (0, 0))) ∧ Aside0 (Below w.heap.size w wc))
 case first =>
  have H := HC3.out
  clear HC3
  by_cases c6 : a0_0 = 2
  ·rw [if_pos c6] at H
   have c6b0 : (a0_0 == 2) = true := beq_iff_eq.mpr c6
   clear c6
   (first | rw [c6b0] | (simp only [i64_w, i32_w]; rw [c6b0]) | skip)
   have H' := Aside0.mk H
   clear H
   go_wp2
   (first | go_meet | (refine Met.intro ?_; go_step; (repeat apply Exists.intro); refine ⟨?rel, ?fr_⟩; (case fr_ => first | (simp only [c6b1, c6b0]; done) | (simp only [c6b1, c6b0]; rfl) | (simp only [c6b1, c6b0]; rfl))))
   case rel => exact ⟨_, ((a0_0 == 2)), wrE, H', ⟨by first | omega | exact Nat.le_refl _⟩, ⟨bk⟩, ⟨bw⟩⟩
  ·rw [if_neg c6] at H
   have c6b0 : (a0_0 == 2) = false := beq_eq_false_iff_ne.mpr c6
   (first | rw [c6b0] | (simp only [i64_w, i32_w]; rw [c6b0]) | skip)
   have H' := Aside0.mk H
   clear H
   go_wp2
   (first | go_meet | (refine Met.intro ?_; go_step; (repeat apply Exists.intro); refine ⟨?rel, ?fr_⟩; (case fr_ => first | (simp only [c6b1, c6b0]; done) | (simp only [c6b1, c6b0]; rfl) | (simp only [c6b1, c6b0]; rfl))))
   case rel => exact ⟨_, ((a0_0 == 3)), wrE, H', ⟨by first | omega | exact Nat.le_refl _⟩, ⟨bk⟩, ⟨bw⟩⟩
 case rest =>
  clear HC3
  clear z5_0 z5_1 z5_2 y5_0 y5_1 y5_2
  obtain ⟨kq, x7_2, rfl, HA, HJ2, BK431, HB⟩ := hcut
  cases kq with
  | zero => exact absurd HA.out (by simp [bluebellref06_local.j0])
  | succ kj2 =>
   have H := HA.out
   clear HA
   simp only [bluebellref06_local.j0] at H
   by_cases c7 : x7_2 = true
   ·subst c7
    have H1 : ((bluebellref06_in.f a0_1 2 (wrap64 (a1 - 1))).bind fun t432 => (some t432)) = some r := by rw [if_pos rfl] at H; exact H
    clear H
    have H := H1
    clear H1
    replace H := Option.bind_eq_some_iff.mp H
    obtain ⟨t432, A80, H⟩ := H
    replace H : (some t432) = some r := H
    have A8 := Aside0.mk A80
    clear A80
    obtain rfl := Option.some.inj H
    obtain ⟨z9_0, z9_1, z9_2, y9_0, y9_1, y9_2⟩ := cells3 BK431.out
    go_wp2_with (first | ((with_reducible refine gate_callee (f := 71) rfl ?_); refine goesL_ (some 14) rfl rfl Try.func71 (by kernel_rfl) rfl #[.int .i64 a0_1, .int .i64 2, .int .i64 (wrap64 (a1 - 1))] rfl mpE ?_; (with_reducible refine (bluebellref06_in.calls a0_1 2 (wrap64 (a1 - 1)) t432 _ A8.out).mono ?_); rintro e w' ⟨rfl, ⟨nd, rfl⟩⟩; refine ⟨_, rfl, ?_⟩))
    go_ret
    exact ⟨erE, bw⟩
   ·replace c7 := Bool.eq_false_iff.mpr c7
    subst c7
    have H1 : (if a0_0 = 4 then (some (decide (a0_1 ≥ 2))) else (if a0_0 = 23 then ((bluebellref06_in.f a0_1 2 (wrap64 (a1 - 3))).bind fun t433 => (some t433)) else (if a0_0 = 18 then (some (decide (a0_1 ≤ (wrap64 ((wrap64 (a1 + 2000)) + 2))))) else (some true)))) = some r := by rw [if_neg (show ¬ (false = true) by decide)] at H; exact H
    clear H
    have H := H1
    clear H1
    by_cases c10 : a0_0 = 4
    ·rw [if_pos c10] at H
     have c10b0 : (a0_0 == 4) = true := beq_iff_eq.mpr c10
     clear c10
     obtain rfl := Option.some.inj H
     obtain ⟨z11_0, z11_1, z11_2, y11_0, y11_1, y11_2⟩ := cells3 BK431.out
     go_wp2
     go_ret
     exact ⟨erE, bw⟩
    ·rw [if_neg c10] at H
     have c10b0 : (a0_0 == 4) = false := beq_eq_false_iff_ne.mpr c10
     by_cases c12 : a0_0 = 23
     ·rw [if_pos c12] at H
      have c12b0 : (a0_0 == 23) = true := beq_iff_eq.mpr c12
      clear c12
      replace H := Option.bind_eq_some_iff.mp H
      obtain ⟨t433, A130, H⟩ := H
      replace H : (some t433) = some r := H
      have A13 := Aside0.mk A130
      clear A130
      obtain rfl := Option.some.inj H
      obtain ⟨z14_0, z14_1, z14_2, y14_0, y14_1, y14_2⟩ := cells3 BK431.out
      go_wp2_with (first | ((with_reducible refine gate_callee (f := 71) rfl ?_); refine goesL_ (some 26) rfl rfl Try.func71 (by kernel_rfl) rfl #[.int .i64 a0_1, .int .i64 2, .int .i64 (wrap64 (a1 - 3))] rfl mpE ?_; (with_reducible refine (bluebellref06_in.calls a0_1 2 (wrap64 (a1 - 3)) t433 _ A13.out).mono ?_); rintro e w' ⟨rfl, ⟨nd, rfl⟩⟩; refine ⟨_, rfl, ?_⟩))
      go_ret
      exact ⟨erE, bw⟩
     ·rw [if_neg c12] at H
      have c12b0 : (a0_0 == 23) = false := beq_eq_false_iff_ne.mpr c12
      by_cases c15 : a0_0 = 18
      ·rw [if_pos c15] at H
       have c15b0 : (a0_0 == 18) = true := beq_iff_eq.mpr c15
       clear c15
       obtain rfl := Option.some.inj H
       obtain ⟨z16_0, z16_1, z16_2, y16_0, y16_1, y16_2⟩ := cells3 BK431.out
       go_wp2
       go_ret
       exact ⟨erE, bw⟩
      ·rw [if_neg c15] at H
       have c15b0 : (a0_0 == 18) = false := beq_eq_false_iff_ne.mpr c15
       obtain rfl := Option.some.inj H
       go_wp2
       go_ret
       exact ⟨erE, bw⟩



/-! ### bluebellref06_lands: function 75 -/
def bluebellref06_lands.l0 : Nat → List (S35) → Int → Option (Bool)
  | 0, _, _ => none
  | k + 1, x0, x1 => if x1 < (x0.length : Int) then (if 0 ≤ x1 then (if ((rd_T35 x0 x1).f0) = 19 then (bluebellref06_lands.l0 k x0 (wrap64 (x1 + 1))) else (some (((rd_T35 x0 x1).f0) == 28))) else (none)) else (some false)
def bluebellref06_lands.f (k : Nat) (l0 : List (S35)) (a1 : Int) : Option (Bool) := bluebellref06_lands.l0 k l0 a1
theorem bluebellref06_lands.mono_l : ∀ k, (∀ y0 y1, LeO (bluebellref06_lands.l0 k y0 y1) (bluebellref06_lands.l0 (k + 1) y0 y1))
  | 0 => fun _ _ r h => by simp [bluebellref06_lands.l0] at h
  | k + 1 => by
    have ih0 := bluebellref06_lands.mono_l k
    · intro y0 y1
      unfold bluebellref06_lands.l0
      repeat' first
      | (with_reducible exact ih0 _ _)
      | (with_reducible exact LeO.refl _)
      | (with_reducible exact LeO.none _)
      | (with_reducible refine LeO.ite ?_ ?_)
      | (with_reducible refine LeO.bind ?_ (fun _ => ?_))
      | exact ih0 _ _
      | exact LeO.none _
      | refine LeO.ite ?_ ?_
      | refine LeO.bind ?_ (fun _ => ?_)
theorem bluebellref06_lands.mono : ∀ a0 a1 k, LeO (bluebellref06_lands.f k a0 a1) (bluebellref06_lands.f (k + 1) a0 a1) := by
  intro a0 a1 k
  have ih0 := bluebellref06_lands.mono_l k
  unfold bluebellref06_lands.f
  repeat' first
      | (with_reducible exact ih0 _ _)
      | (with_reducible exact LeO.refl _)
      | (with_reducible exact LeO.none _)
      | (with_reducible refine LeO.ite ?_ ?_)
      | (with_reducible refine LeO.bind ?_ (fun _ => ?_))
      | exact ih0 _ _
      | exact LeO.none _
      | refine LeO.ite ?_ ?_
      | refine LeO.bind ?_ (fun _ => ?_)
set_option maxHeartbeats 8000000 in
set_option maxRecDepth 100000 in
theorem bluebellref06_lands.calls (k : Nat) (A0 : Option Addr) (c0 : Nat) (l0 : List (S35)) (a1 : Int) (r : Bool) (w : World) (hr0 : Kd.C k35 w A0 l0.length l0) (hc0 : l0.length ≤ c0) (h : bluebellref06_lands.f k l0 a1 = some r) :
    Calls Try.prog 75 #[.slice A0 l0.length c0, .int .i64 a1] w fun e w' => e = .returned (.bool r) ∧ Drawn0 w w' := by
  have HR0 := Aside0.mk hr0
  have HC0 := Aside0.mk hc0
  clear hr0 hc0
  have H : (bluebellref06_lands.l0 k l0 a1) = some r := h
  clear h
  have H' := Aside0.mk H
  clear H
  go_enter Try.func75, Try.ntmps75
  go_wp2
  go_loopg [1] k (fun kq v1 w' => ∃ (x1_1 : Int), v1 = .int .i64 x1_1 ∧ Aside0 (bluebellref06_lands.l0 kq l0 x1_1 = some r) ∧ Aside0 (kq ≤ k) ∧ Drawn0 w w')
  case atStart => exact ⟨(a1), (by first | rfl | (simp; done) | (simp [*]; done)), H', ⟨Nat.le_refl _⟩, by repeat (first | exact Drawn0.refl _ | apply Drawn0.step)⟩
  case round =>
    clear H'
    try clear p2
    obtain ⟨x1_1, rfl, HA, HK1, ⟨m1, rfl⟩⟩ := hrel
    cases gk with
    | zero => exact absurd HA.out (by simp [bluebellref06_lands.l0])
    | succ k1 =>
      have H := HA.out
      clear HA
      simp only [bluebellref06_lands.l0] at H
      by_cases c3 : x1_1 < (l0.length : Int)
      · rw [if_pos c3] at H
        have c3b0 : decide (x1_1 < (l0.length : Int)) = true := decide_eq_true c3
        clear c3
        by_cases c4 : 0 ≤ x1_1
        · rw [if_pos c4] at H
          have c4b0 : decide (0 ≤ x1_1) = true := decide_eq_true c4
          clear c4
          by_cases c5 : ((rd_T35 l0 x1_1).f0) = 19
          · rw [if_pos c5] at H
            have c5b0 : (((rd_T35 l0 x1_1).f0) == 19) = true := beq_iff_eq.mpr c5
            have c5b1 : (((rd_T35 l0 x1_1).f0) != 19) = false := bne_eq_false_iff_eq.mpr c5
            clear c5
            have H' := Aside0.mk H
            clear H
            have p434 : 0 ≤ (x1_1 : Int) := of_decide_eq_true (by first | (with_reducible assumption) | assumption)
            have q434 : x1_1 < (l0.length : Int) := of_decide_eq_true (by first | (with_reducible assumption) | assumption)
            obtain ⟨ad434, e434, hx434_0, hx434_1, hx434_2⟩ := at_T35 HR0.out x1_1 p434 q434
            cases e434
            replace p434 := eq_true p434
            replace q434 := eq_true q434
            go_wp2
            go_roundg k1
            case measure => have := HK1.out; omega
            case rel => exact ⟨(wrap64 (x1_1 + 1)), (by first | rfl | (simp; done) | (simp [*]; done)), H', ⟨by have := HK1.out; omega⟩, by repeat (first | exact Drawn0.refl _ | apply Drawn0.step)⟩
          · rw [if_neg c5] at H
            have c5b0 : (((rd_T35 l0 x1_1).f0) == 19) = false := beq_eq_false_iff_ne.mpr c5
            have c5b1 : (((rd_T35 l0 x1_1).f0) != 19) = true := bne_iff_ne.mpr c5
            obtain rfl := Option.some.inj H
            have p434 : 0 ≤ (x1_1 : Int) := of_decide_eq_true (by first | (with_reducible assumption) | assumption)
            have q434 : x1_1 < (l0.length : Int) := of_decide_eq_true (by first | (with_reducible assumption) | assumption)
            obtain ⟨ad434, e434, hx434_0, hx434_1, hx434_2⟩ := at_T35 HR0.out x1_1 p434 q434
            cases e434
            replace p434 := eq_true p434
            replace q434 := eq_true q434
            have p435 : 0 ≤ (x1_1 : Int) := of_decide_eq_true (by first | (with_reducible assumption) | assumption)
            have q435 : x1_1 < (l0.length : Int) := of_decide_eq_true (by first | (with_reducible assumption) | assumption)
            obtain ⟨ad435, e435, hx435_0, hx435_1, hx435_2⟩ := at_T35 HR0.out x1_1 p435 q435
            obtain rfl : ad434 = ad435 := (by injection e435)
            replace p435 := eq_true p435
            replace q435 := eq_true q435
            go_wp2
            go_ret
            exact ⟨by first | rfl | (simp; done) | (simp [*]; done), by repeat (first | exact Drawn0.refl _ | apply Drawn0.step)⟩
        · rw [if_neg c4] at H
          exact absurd H (by simp)
      · rw [if_neg c3] at H
        have c3b0 : decide (x1_1 < (l0.length : Int)) = false := decide_eq_false c3
        clear c3
        obtain rfl := Option.some.inj H
        go_wp2
        go_ret
        exact ⟨by first | rfl | (simp; done) | (simp [*]; done), by repeat (first | exact Drawn0.refl _ | apply Drawn0.step)⟩


end Go.Proofs.Ytkmcanknbdaliaa.PO
