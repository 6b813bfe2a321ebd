/- Lemmas for the law, put together: contracts of the program's functions and what they answer, in plain words (part 2). -/
import Derived.Test.YtkmcanknbdaliaaQChecks1
import Derived.Test.YtkmcanknbdaliaaQChecksShort
namespace Go.Proofs.Ytkmcanknbdaliaa.PO
open Go.RowKit Go.Proofs.YtkmcanknbdaliaaW.PrintWords Go.Proofs.YtkmcanknbdaliaaW.PrintLast Go.Proofs.YtkmcanknbdaliaaW.PrintMore
attribute [local go_sem] max2_int min2_int max_two min_two max_three min_three max_four min_four   -- for this text's walks alone
set_option linter.unusedVariables false
set_option linter.unusedSimpArgs false

/-! ### bluebellref06_order: function 45 -/
mutual
def bluebellref06_order.l0 : Nat → Int → Int → Int → Int → ByteArray → List (S47) → List (S35) → List (S68) → Int → Int → Option (Bool)
 | 0, _, _, _, _, _, _, _, _, _, _ => none
 | k + 1, x3, x4, x5, x6, p0, p1, p2, p3, p4, p5 => if x6 < (p2.length : Int) then (if 0 ≤ x6 then (if ((decide (x5 > 0)) != (((rd_T35 p2 x6).f0) == 30)) = true then (some false) else (if x5 > 0 then (bluebellref06_order.j1 k x3 x4 (wrap64 (x5 - 1)) x6 p0 p1 p2 p3 p4 p5 ((rd_T35 p2 x6).f0) ((rd_T35 p2 x6).f1) ((rd_T35 p2 x6).f2)) else (bluebellref06_order.j1 k x3 x4 x5 x6 p0 p1 p2 p3 p4 p5 ((rd_T35 p2 x6).f0) ((rd_T35 p2 x6).f1) ((rd_T35 p2 x6).f2)))) else (none)) else (if x5 = 0 then (if x3 = p4 then (some (x4 == p5)) else (some false)) else (some false))
def bluebellref06_order.j1 : Nat → Int → Int → Int → Int → ByteArray → List (S47) → List (S35) → List (S68) → Int → Int → Int → Int → Int → Option (Bool)
 | 0, _, _, _, _, _, _, _, _, _, _, _, _, _ => none
 | k + 1, x3, x4, x5, x6, p0, p1, p2, p3, p4, p5, q0, q1, q2 => if q0 = 24 then (if q1 = (wrap64 (x3 + 1)) then ((bluebellref06_GoesOn.f q0 q1 q2).bind fun t396 => (if t396 = true then (if (wrap64 (x6 + 1)) ≥ (p2.length : Int) then (some false) else (if 0 ≤ (wrap64 (x6 + 1)) then (if (wrap64 (x6 + 1)) < (p2.length : Int) then (if ((rd_T35 p2 (wrap64 (x6 + 1))).f0) = 24 then (some false) else (if x6 = 0 then (bluebellref06_order.l0 k (wrap64 (x3 + 1)) x4 x5 (wrap64 (x6 + 1)) p0 p1 p2 p3 p4 p5) else (bluebellref06_order.l0 k (wrap64 (x3 + 1)) x4 x5 (wrap64 (x6 + 1)) p0 p1 p2 p3 p4 p5))) else (none)) else (none))) else (if x6 = 0 then (bluebellref06_order.l0 k (wrap64 (x3 + 1)) x4 x5 (wrap64 (x6 + 1)) p0 p1 p2 p3 p4 p5) else (bluebellref06_order.l0 k (wrap64 (x3 + 1)) x4 x5 (wrap64 (x6 + 1)) p0 p1 p2 p3 p4 p5)))) else (some false)) else (if q0 = 29 then ((bluebellref06_GoesOn.f q0 q1 q2).bind fun t398 => (if t398 = true then (if (wrap64 (x6 + 1)) ≥ (p2.length : Int) then (some false) else (if 0 ≤ (wrap64 (x6 + 1)) then (if (wrap64 (x6 + 1)) < (p2.length : Int) then (if ((rd_T35 p2 (wrap64 (x6 + 1))).f0) = 24 then (some false) else (if x6 = 0 then (some false) else (bluebellref06_order.l0 k x3 x4 q2 (wrap64 (x6 + 1)) p0 p1 p2 p3 p4 p5))) else (none)) else (none))) else (if x6 = 0 then (some false) else (bluebellref06_order.l0 k x3 x4 q2 (wrap64 (x6 + 1)) p0 p1 p2 p3 p4 p5)))) else (if q0 = 19 then (if (wrap64 (x6 + 1)) ≥ (p2.length : Int) then (bluebellref06_order.j2 k x3 (mx x4 q1) x5 x6 (decide ((wrap64 (x6 + 1)) ≥ (p2.length : Int))) true p0 p1 p2 p3 p4 p5 q0 q1 q2) else (if 0 ≤ (wrap64 (x6 + 1)) then (if (wrap64 (x6 + 1)) < (p2.length : Int) then (if ((rd_T35 p2 (wrap64 (x6 + 1))).f0) = 18 then (bluebellref06_order.j2 k x3 (mx x4 q1) x5 x6 (decide ((wrap64 (x6 + 1)) ≥ (p2.length : Int))) false p0 p1 p2 p3 p4 p5 q0 q1 q2) else (if ((rd_T35 p2 (wrap64 (x6 + 1))).f0) = 28 then (bluebellref06_order.j2 k x3 (mx x4 q1) x5 x6 (decide ((wrap64 (x6 + 1)) ≥ (p2.length : Int))) false p0 p1 p2 p3 p4 p5 q0 q1 q2) else (bluebellref06_order.j2 k x3 (mx x4 q1) x5 x6 (decide ((wrap64 (x6 + 1)) ≥ (p2.length : Int))) (((rd_T35 p2 (wrap64 (x6 + 1))).f0) != 19) p0 p1 p2 p3 p4 p5 q0 q1 q2))) else (none)) else (none))) else ((bluebellref06_GoesOn.f q0 q1 q2).bind fun t405 => (if t405 = true then (if (wrap64 (x6 + 1)) ≥ (p2.length : Int) then (some false) else (if 0 ≤ (wrap64 (x6 + 1)) then (if (wrap64 (x6 + 1)) < (p2.length : Int) then (if ((rd_T35 p2 (wrap64 (x6 + 1))).f0) = 24 then (some false) else (if x6 = 0 then (some false) else (bluebellref06_order.l0 k x3 x4 x5 (wrap64 (x6 + 1)) p0 p1 p2 p3 p4 p5))) else (none)) else (none))) else (if x6 = 0 then (some false) else (bluebellref06_order.l0 k x3 x4 x5 (wrap64 (x6 + 1)) p0 p1 p2 p3 p4 p5))))))
def bluebellref06_order.j2 : Nat → Int → Int → Int → Int → Bool → Bool → ByteArray → List (S47) → List (S35) → List (S68) → Int → Int → Int → Int → Int → Option (Bool)
 | 0, _, _, _, _, _, _, _, _, _, _, _, _, _, _, _ => none
 | k + 1, x3, x4, x5, x6, x8, x87, p0, p1, p2, p3, p4, p5, q0, q1, q2 => if x87 = true then (some false) else ((bluebellref06_GoesOn.f q0 q1 q2).bind fun t403 => (if t403 = true then (if x8 = true then (some false) else (if 0 ≤ (wrap64 (x6 + 1)) then (if (wrap64 (x6 + 1)) < (p2.length : Int) then (if ((rd_T35 p2 (wrap64 (x6 + 1))).f0) = 24 then (some false) else (if x6 = 0 then (if q0 = 24 then (bluebellref06_order.l0 k x3 x4 x5 (wrap64 (x6 + 1)) p0 p1 p2 p3 p4 p5) else (some false)) else (bluebellref06_order.l0 k x3 x4 x5 (wrap64 (x6 + 1)) p0 p1 p2 p3 p4 p5))) else (none)) else (none))) else (if x6 = 0 then (if q0 = 24 then (bluebellref06_order.l0 k x3 x4 x5 (wrap64 (x6 + 1)) p0 p1 p2 p3 p4 p5) else (some false)) else (bluebellref06_order.l0 k x3 x4 x5 (wrap64 (x6 + 1)) p0 p1 p2 p3 p4 p5))))
end
def bluebellref06_order.f (k : Nat) (a0_0 : ByteArray) (l0_1 : List (S47)) (l0_2 : List (S35)) (l0_3 : List (S68)) (a0_4 : Int) (a0_5 : Int) : Option (Bool) := bluebellref06_order.l0 k 0 0 0 0 a0_0 l0_1 l0_2 l0_3 a0_4 a0_5
theorem bluebellref06_order.mono_l : ∀ k, (∀ y0 y1 y2 y3 y4 y5 y6 y7 y8 y9, LeO (bluebellref06_order.l0 k y0 y1 y2 y3 y4 y5 y6 y7 y8 y9) (bluebellref06_order.l0 (k + 1) y0 y1 y2 y3 y4 y5 y6 y7 y8 y9)) ∧ (∀ y0 y1 y2 y3 y4 y5 y6 y7 y8 y9 y10 y11 y12, LeO (bluebellref06_order.j1 k y0 y1 y2 y3 y4 y5 y6 y7 y8 y9 y10 y11 y12) (bluebellref06_order.j1 (k + 1) y0 y1 y2 y3 y4 y5 y6 y7 y8 y9 y10 y11 y12)) ∧ (∀ y0 y1 y2 y3 y4 y5 y6 y7 y8 y9 y10 y11 y12 y13 y14, LeO (bluebellref06_order.j2 k y0 y1 y2 y3 y4 y5 y6 y7 y8 y9 y10 y11 y12 y13 y14) (bluebellref06_order.j2 (k + 1) y0 y1 y2 y3 y4 y5 y6 y7 y8 y9 y10 y11 y12 y13 y14))
 | 0 => ⟨fun _ _ _ _ _ _ _ _ _ _ r h => by simp [bluebellref06_order.l0] at h, fun _ _ _ _ _ _ _ _ _ _ _ _ _ r h => by simp [bluebellref06_order.j1] at h, fun _ _ _ _ _ _ _ _ _ _ _ _ _ _ _ r h => by simp [bluebellref06_order.j2] at h⟩
 | k + 1 => by
  obtain ⟨ih0, ih1, ih2⟩ := bluebellref06_order.mono_l k
  refine ⟨?_, ?_, ?_⟩
  ·intro y0 y1 y2 y3 y4 y5 y6 y7 y8 y9
   unfold bluebellref06_order.l0
   repeat' first
   | (with_reducible exact ih0 _ _ _ _ _ _ _ _ _ _)
   | (with_reducible exact ih1 _ _ _ _ _ _ _ _ _ _ _ _ _)
   | (with_reducible exact ih2 _ _ _ _ _ _ _ _ _ _ _ _ _ _ _)
   | (with_reducible exact LeO.refl _)
   | (with_reducible exact LeO.none _)
   | (with_reducible refine LeO.ite ?_ ?_)
   | (with_reducible refine LeO.bind ?_ (fun _ => ?_))
   | exact ih0 _ _ _ _ _ _ _ _ _ _
   | exact ih1 _ _ _ _ _ _ _ _ _ _ _ _ _
   | exact ih2 _ _ _ _ _ _ _ _ _ _ _ _ _ _ _
   | exact LeO.none _
   | refine LeO.ite ?_ ?_
   | refine LeO.bind ?_ (fun _ => ?_)
  ·intro y0 y1 y2 y3 y4 y5 y6 y7 y8 y9 y10 y11 y12
   unfold bluebellref06_order.j1
   repeat' first
   | (with_reducible exact ih0 _ _ _ _ _ _ _ _ _ _)
   | (with_reducible exact ih1 _ _ _ _ _ _ _ _ _ _ _ _ _)
   | (with_reducible exact ih2 _ _ _ _ _ _ _ _ _ _ _ _ _ _ _)
   | (with_reducible exact LeO.refl _)
   | (with_reducible exact LeO.none _)
   | (with_reducible refine LeO.ite ?_ ?_)
   | (with_reducible refine LeO.bind ?_ (fun _ => ?_))
   | exact ih0 _ _ _ _ _ _ _ _ _ _
   | exact ih1 _ _ _ _ _ _ _ _ _ _ _ _ _
   | exact ih2 _ _ _ _ _ _ _ _ _ _ _ _ _ _ _
   | exact LeO.none _
   | refine LeO.ite ?_ ?_
   | refine LeO.bind ?_ (fun _ => ?_)
  ·intro y0 y1 y2 y3 y4 y5 y6 y7 y8 y9 y10 y11 y12 y13 y14
   unfold bluebellref06_order.j2
   repeat' first
   | (with_reducible exact ih0 _ _ _ _ _ _ _ _ _ _)
   | (with_reducible exact ih1 _ _ _ _ _ _ _ _ _ _ _ _ _)
   | (with_reducible exact ih2 _ _ _ _ _ _ _ _ _ _ _ _ _ _ _)
   | (with_reducible exact LeO.refl _)
   | (with_reducible exact LeO.none _)
   | (with_reducible refine LeO.ite ?_ ?_)
   | (with_reducible refine LeO.bind ?_ (fun _ => ?_))
   | exact ih0 _ _ _ _ _ _ _ _ _ _
   | exact ih1 _ _ _ _ _ _ _ _ _ _ _ _ _
   | exact ih2 _ _ _ _ _ _ _ _ _ _ _ _ _ _ _
   | exact LeO.none _
   | refine LeO.ite ?_ ?_
   | refine LeO.bind ?_ (fun _ => ?_)
theorem bluebellref06_order.mono : ∀ a0 a1 a2 a3 a4 a5 k, LeO (bluebellref06_order.f k a0 a1 a2 a3 a4 a5) (bluebellref06_order.f (k + 1) a0 a1 a2 a3 a4 a5) := by
 intro a0 a1 a2 a3 a4 a5 k
 obtain ⟨ih0, ih1, ih2⟩ := bluebellref06_order.mono_l k
 unfold bluebellref06_order.f
 repeat' first
   | (with_reducible exact ih0 _ _ _ _ _ _ _ _ _ _)
   | (with_reducible exact ih1 _ _ _ _ _ _ _ _ _ _ _ _ _)
   | (with_reducible exact ih2 _ _ _ _ _ _ _ _ _ _ _ _ _ _ _)
   | (with_reducible exact LeO.refl _)
   | (with_reducible exact LeO.none _)
   | (with_reducible refine LeO.ite ?_ ?_)
   | (with_reducible refine LeO.bind ?_ (fun _ => ?_))
   | exact ih0 _ _ _ _ _ _ _ _ _ _
   | exact ih1 _ _ _ _ _ _ _ _ _ _ _ _ _
   | exact ih2 _ _ _ _ _ _ _ _ _ _ _ _ _ _ _
   | exact LeO.none _
   | refine LeO.ite ?_ ?_
   | refine LeO.bind ?_ (fun _ => ?_)
set_option maxHeartbeats 8000000 in
set_option maxRecDepth 100000 in
theorem bluebellref06_order.calls (k : Nat) (a0_0 : ByteArray) (A0_1 : Option Addr) (c0_1 : Nat) (l0_1 : List (S47)) (A0_2 : Option Addr) (c0_2 : Nat) (l0_2 : List (S35)) (A0_3 : Option Addr) (c0_3 : Nat) (l0_3 : List (S68)) (a0_4 : Int) (a0_5 : Int) (r : Bool) (w : World) (hr0_1 : Kd.C k47 w A0_1 l0_1.length l0_1) (hc0_1 : l0_1.length ≤ c0_1) (hr0_2 : Kd.C k35 w A0_2 l0_2.length l0_2) (hc0_2 : l0_2.length ≤ c0_2) (hr0_3 : Kd.C k68 w A0_3 l0_3.length l0_3) (hc0_3 : l0_3.length ≤ c0_3) (h : bluebellref06_order.f k a0_0 l0_1 l0_2 l0_3 a0_4 a0_5 = some r) :
  Calls Try.prog 45 #[.agg #[.string a0_0, .slice A0_1 l0_1.length c0_1, .slice A0_2 l0_2.length c0_2, .slice A0_3 l0_3.length c0_3, .int .i64 a0_4, .int .i64 a0_5]] w fun e w' => e = .returned (.bool r) ∧ Below w.heap.size w w' := by
 have hu26 := Try.underlying26
 have hu35 := Try.underlying35
 have HR0_1 := Aside0.mk hr0_1
 have HC0_1 := Aside0.mk hc0_1
 clear hr0_1 hc0_1
 have HR0_2 := Aside0.mk hr0_2
 have HC0_2 := Aside0.mk hc0_2
 clear hr0_2 hc0_2
 have HR0_3 := Aside0.mk hr0_3
 have HC0_3 := Aside0.mk hc0_3
 clear hr0_3 hc0_3
 have HB := Aside0.mk (Below.refl w.heap.size w)
 have H : (bluebellref06_order.l0 k 0 0 0 0 a0_0 l0_1 l0_2 l0_3 a0_4 a0_5) = some r := h
 clear h
 have H' := Aside0.mk H
 clear H
 go_enter Try.func45, Try.ntmps45
 go_wp2_with (first | ((with_reducible refine gate_dst (N := 1) rfl ?_); refine boxev (N := 1) (cs := #[.string a0_0, .slice A0_1 l0_1.length c0_1, .slice A0_2 l0_2.length c0_2, .slice A0_3 l0_3.length c0_3, .int .i64 a0_4, .int .i64 a0_5]) (t := 26) ?_; intro gb393 hg w2 hbox hb; have BK393 := Aside0.mk (hbox); have GW393 := Aside0.mk ((by rw [hg]; exact bsz : w.heap.size ≤ gb393)); have GE393 := Aside0.mk ((by rw [hg]; exact bsz : w.heap.size ≤ gb393)); replace HB := Aside0.mk (bstep hb); clear hb hbox hg))
 go_loopg [3, 4, 5, 6] k (fun kq v3 v4 v5 v6 w' => ∃ (x3_1 : Int) (x4_1 : Int) (x5_1 : Int) (x6_1 : Int), v3 = .int .i64 x3_1 ∧ v4 = .int .i64 x4_1 ∧ v5 = .int .i64 x5_1 ∧ v6 = .int .i64 x6_1 ∧ Aside0 (bluebellref06_order.l0 kq x3_1 x4_1 x5_1 x6_1 a0_0 l0_1 l0_2 l0_3 a0_4 a0_5 = some r) ∧ Aside0 (kq ≤ k) ∧ Aside0 (w'.heap[gb393]? = some (.cells #[.string a0_0, (.slice A0_1 l0_1.length c0_1), (.slice A0_2 l0_2.length c0_2), (.slice A0_3 l0_3.length c0_3), .int .i64 a0_4, .int .i64 a0_5] 26 (0, 0))) ∧ Aside0 (Below w.heap.size w w'))
 case atStart => exact ⟨(0), (0), (0), (0), wrE, wrE, wrE, wrE, H', ⟨Nat.le_refl _⟩, ⟨bk⟩, ⟨bw⟩⟩
 case round =>
  clear H'
  obtain ⟨x3_1, x4_1, x5_1, x6_1, rfl, rfl, rfl, rfl, HA, HK1, BK393, HB⟩ := hrel
  cases gk with
  | zero => exact absurd HA.out (by simp [bluebellref06_order.l0])
  | succ k1 =>
   have H := HA.out
   clear HA
   simp only [bluebellref06_order.l0] at H
   by_cases c3 : x6_1 < (l0_2.length : Int)
   ·rw [if_pos c3] at H
    have c3b0 : decide (x6_1 < (l0_2.length : Int)) = true := decide_eq_true c3
    clear c3
    by_cases c4 : 0 ≤ x6_1
    rotate_left
    ·rw [if_neg c4] at H
     exact absurd H (by simp)
    rw [if_pos c4] at H
    have c4b0 : decide (0 ≤ x6_1) = true := decide_eq_true c4
    clear c4
    by_cases c5 : ((decide (x5_1 > 0)) != (((rd_T35 l0_2 x6_1).f0) == 30)) = true
    ·rw [if_pos c5] at H
     have c5b0 : ((decide (x5_1 > 0)) != (((rd_T35 l0_2 x6_1).f0) == 30)) = true := c5
     (try (have c5b1 : decide ((decide (x5_1 > 0)) = (((rd_T35 l0_2 x6_1).f0) == 30)) = false := by simpa using c5))
     (try (have c5b2 : ((decide (x5_1 > 0)) == (((rd_T35 l0_2 x6_1).f0) == 30)) = false := by simpa using c5))
     (try (have c5b3 : ¬ ((decide (x5_1 > 0)) = (((rd_T35 l0_2 x6_1).f0) == 30)) := by simpa using c5))
     clear c5
     obtain rfl := Option.some.inj H
     obtain ⟨z6_0, z6_1, z6_2, z6_3, z6_4, z6_5, y6_0, y6_1, y6_2, y6_3, y6_4, y6_5⟩ := cells6 BK393.out
     have p394 : 0 ≤ (x6_1 : Int) := ofd
     have q394 : x6_1 < (l0_2.length : Int) := ofd
     obtain ⟨ad394, e394, hx394_0, hx394_1, hx394_2⟩ := at_T35 HR0_2.out x6_1 p394 q394
     cases e394
     replace hx394_0 := hxE HB.out hx394_0
     replace hx394_1 := hxE HB.out hx394_1
     replace hx394_2 := hxE HB.out hx394_2
     replace p394 := eq_true p394
     replace q394 := eq_true q394
     go_wp2_with (first | ((with_reducible refine gate_dst (N := 7) rfl ?_); refine boxev (N := 7) (cs := #[.int .i64 0, .int .i64 0, .int .i64 0]) (t := 35) ?_; intro gb395 hg w7 hbox hb; have BK395 := Aside0.mk (hbox); have GW395 := Aside0.mk ((by rw [hg]; exact bsz : w.heap.size ≤ gb395)); have GE395 := Aside0.mk ((by rw [hg]; exact bsz : w.heap.size ≤ gb395)); have NB393_395 := Aside0.mk ((by rw [hg]; exact Nat.ne_of_lt (bkl (g := gb393)) : gb393 ≠ gb395)); have NB395_393 := Aside0.mk ((by rw [hg]; exact Nat.ne_of_gt (bkl (g := gb393)) : gb395 ≠ gb393)); replace BK393 := Aside0.mk (bkb (g := gb393) hb); replace HB := Aside0.mk (bstep hb); clear hb hbox hg; have hnb8 := NB395_393.out; have hnc8 := NB393_395.out; obtain ⟨z9_0, z9_1, z9_2, y9_0, y9_1, y9_2⟩ := cells3 BK395.out))
     go_ret
     exact ⟨erE, bw⟩
    ·rw [if_neg c5] at H
     have c5b0 : ((decide (x5_1 > 0)) != (((rd_T35 l0_2 x6_1).f0) == 30)) = false := by simpa using c5
     (try (have c5b1 : decide ((decide (x5_1 > 0)) = (((rd_T35 l0_2 x6_1).f0) == 30)) = true := by simpa using c5))
     (try (have c5b2 : ((decide (x5_1 > 0)) == (((rd_T35 l0_2 x6_1).f0) == 30)) = true := by simpa using c5))
     clear c5
     have HC10 := Aside0.mk H
     clear H
     obtain ⟨z11_0, z11_1, z11_2, z11_3, z11_4, z11_5, y11_0, y11_1, y11_2, y11_3, y11_4, y11_5⟩ := cells6 BK393.out
     have p394 : 0 ≤ (x6_1 : Int) := ofd
     have q394 : x6_1 < (l0_2.length : Int) := ofd
     obtain ⟨ad394, e394, hx394_0, hx394_1, hx394_2⟩ := at_T35 HR0_2.out x6_1 p394 q394
     cases e394
     replace hx394_0 := hxE HB.out hx394_0
     replace hx394_1 := hxE HB.out hx394_1
     replace hx394_2 := hxE HB.out hx394_2
     replace p394 := eq_true p394
     replace q394 := eq_true q394
     go_upto_if 28 with (first | ((with_reducible refine gate_dst (N := 7) rfl ?_); refine boxev (N := 7) (cs := #[.int .i64 0, .int .i64 0, .int .i64 0]) (t := 35) ?_; intro gb395 hg w12 hbox hb; have BK395 := Aside0.mk (hbox); have GW395 := Aside0.mk ((by rw [hg]; exact bsz : w.heap.size ≤ gb395)); have GE395 := Aside0.mk ((by rw [hg]; exact bsz : w.heap.size ≤ gb395)); have NB393_395 := Aside0.mk ((by rw [hg]; exact Nat.ne_of_lt (bkl (g := gb393)) : gb393 ≠ gb395)); have NB395_393 := Aside0.mk ((by rw [hg]; exact Nat.ne_of_gt (bkl (g := gb393)) : gb395 ≠ gb393)); replace BK393 := Aside0.mk (bkb (g := gb393) hb); replace HB := Aside0.mk (bstep hb); clear hb hbox hg; have hnb13 := NB395_393.out; have hnc13 := NB393_395.out; obtain ⟨z14_0, z14_1, z14_2, y14_0, y14_1, y14_2⟩ := cells3 BK395.out))
     (try simp only [Act.put, List.setIfInBounds_toArray, List.set_cons_zero, List.set_cons_succ])
     go_cut [5] (fun v5 wc => ∃ (kq : Nat) (x5_9 : Int), v5 = .int .i64 x5_9 ∧ Aside0 (bluebellref06_order.j1 kq x3_1 x4_1 x5_9 x6_1 a0_0 l0_1 l0_2 l0_3 a0_4 a0_5 ((rd_T35 l0_2 x6_1).f0) ((rd_T35 l0_2 x6_1).f1) ((rd_T35 l0_2 x6_1).f2) = some r) ∧ Aside0 (kq ≤ k1) ∧ Aside0 (wc.heap[gb393]? = some (.cells #[.string a0_0, (.slice A0_1 l0_1.length c0_1), (.slice (some ad394) l0_2.length c0_2), (.slice A0_3 l0_3.length c0_3), .int .i64 a0_4, .int .i64 a0_5] 26 (0, 0))) ∧ Aside0 (wc.heap[gb395]? = some (.cells #[.int .i64 ((rd_T35 l0_2 x6_1).f0), .int .i64 ((rd_T35 l0_2 x6_1).f1), .int .i64 ((rd_T35 l0_2 x6_1).f2)] 35 (0, 0))) ∧ Aside0 (Below w.heap.size w wc))
     case first =>
      have H := HC10.out
      clear HC10
      by_cases c15 : x5_1 > 0
      ·rw [if_pos c15] at H
       have c15b0 : decide (0 < x5_1) = true := decide_eq_true c15
       clear c15
       (first | rw [c15b0] | (simp only [i64_w, i32_w]; rw [c15b0]) | skip)
       have H' := Aside0.mk H
       clear H
       go_wp2
       (first | go_meet | (refine Met.intro ?_; go_step; (repeat apply Exists.intro); refine ⟨?rel, ?fr_⟩; (case fr_ => first | (simp only [c15b0]; done) | (simp only [c15b0]; rfl) | (simp only [c15b0]; rfl))))
       case rel => exact ⟨_, (wrap64 (x5_1 - 1)), wrE, H', ⟨by have := HK1.out; first | omega | exact Nat.le_refl _⟩, ⟨by (with_reducible repeat (first | refine blk_drewN ?_ _ | refine blk_drew ?_ | refine blk_alloc ?_ _)); refine blk_far ?_ NB393_395.out _; (with_reducible repeat (first | refine blk_drewN ?_ _ | refine blk_drew ?_ | refine blk_alloc ?_ _)); refine blk_far ?_ NB393_395.out _; (with_reducible repeat (first | refine blk_drewN ?_ _ | refine blk_drew ?_ | refine blk_alloc ?_ _)); refine blk_far ?_ NB393_395.out _; (with_reducible repeat (first | refine blk_drewN ?_ _ | refine blk_drew ?_ | refine blk_alloc ?_ _)); exact BK393.out⟩, ⟨by (with_reducible repeat (first | refine blk_drewN ?_ _ | refine blk_drew ?_ | refine blk_alloc ?_ _)); refine blk_put (cs := #[.int .i64 ((rd_T35 l0_2 x6_1).f0), .int .i64 ((rd_T35 l0_2 x6_1).f1), .int .i64 0]) ?_ 2 _ rfl; (with_reducible repeat (first | refine blk_drewN ?_ _ | refine blk_drew ?_ | refine blk_alloc ?_ _)); refine blk_put (cs := #[.int .i64 ((rd_T35 l0_2 x6_1).f0), .int .i64 0, .int .i64 0]) ?_ 1 _ rfl; (with_reducible repeat (first | refine blk_drewN ?_ _ | refine blk_drew ?_ | refine blk_alloc ?_ _)); refine blk_put (cs := #[.int .i64 0, .int .i64 0, .int .i64 0]) ?_ 0 _ rfl; (with_reducible repeat (first | refine blk_drewN ?_ _ | refine blk_drew ?_ | refine blk_alloc ?_ _)); exact BK395.out⟩, ⟨bw⟩⟩
      ·rw [if_neg c15] at H
       have c15b0 : decide (0 < x5_1) = false := decide_eq_false c15
       clear c15
       (first | rw [c15b0] | (simp only [i64_w, i32_w]; rw [c15b0]) | skip)
       have H' := Aside0.mk H
       clear H
       go_wp2
       (first | go_meet | (refine Met.intro ?_; go_step; (repeat apply Exists.intro); refine ⟨?rel, ?fr_⟩; (case fr_ => first | (simp only [c15b0]; done) | (simp only [c15b0]; rfl) | (simp only [c15b0]; rfl))))
       case rel => exact ⟨_, (x5_1), wrE, H', ⟨by have := HK1.out; first | omega | exact Nat.le_refl _⟩, ⟨by (with_reducible repeat (first | refine blk_drewN ?_ _ | refine blk_drew ?_ | refine blk_alloc ?_ _)); refine blk_far ?_ NB393_395.out _; (with_reducible repeat (first | refine blk_drewN ?_ _ | refine blk_drew ?_ | refine blk_alloc ?_ _)); refine blk_far ?_ NB393_395.out _; (with_reducible repeat (first | refine blk_drewN ?_ _ | refine blk_drew ?_ | refine blk_alloc ?_ _)); refine blk_far ?_ NB393_395.out _; (with_reducible repeat (first | refine blk_drewN ?_ _ | refine blk_drew ?_ | refine blk_alloc ?_ _)); exact BK393.out⟩, ⟨by (with_reducible repeat (first | refine blk_drewN ?_ _ | refine blk_drew ?_ | refine blk_alloc ?_ _)); refine blk_put (cs := #[.int .i64 ((rd_T35 l0_2 x6_1).f0), .int .i64 ((rd_T35 l0_2 x6_1).f1), .int .i64 0]) ?_ 2 _ rfl; (with_reducible repeat (first | refine blk_drewN ?_ _ | refine blk_drew ?_ | refine blk_alloc ?_ _)); refine blk_put (cs := #[.int .i64 ((rd_T35 l0_2 x6_1).f0), .int .i64 0, .int .i64 0]) ?_ 1 _ rfl; (with_reducible repeat (first | refine blk_drewN ?_ _ | refine blk_drew ?_ | refine blk_alloc ?_ _)); refine blk_put (cs := #[.int .i64 0, .int .i64 0, .int .i64 0]) ?_ 0 _ rfl; (with_reducible repeat (first | refine blk_drewN ?_ _ | refine blk_drew ?_ | refine blk_alloc ?_ _)); exact BK395.out⟩, ⟨bw⟩⟩
     case rest =>
      clear HC10
      clear c3b0 c4b0 c5b0 c5b1 c5b2 z11_0 z11_1 z11_2 z11_3 z11_4 z11_5 z14_0 z14_1 z14_2 y11_0 y11_1 y11_2 y11_3 y11_4 y11_5 y14_0 y14_1 y14_2 hx394_0 hx394_1 hx394_2 p394 q394
      obtain ⟨kq, x5_9, rfl, HA, HJ9, BK393, BK395, HB⟩ := hcut
      cases kq with
      | zero => exact absurd HA.out (by simp [bluebellref06_order.j1])
      | succ kj9 =>
       have H := HA.out
       clear HA
       simp only [bluebellref06_order.j1] at H
       by_cases c16 : ((rd_T35 l0_2 x6_1).f0) = 24
       ·rw [if_pos c16] at H
        have c16b0 : (((rd_T35 l0_2 x6_1).f0) == 24) = true := beq_iff_eq.mpr c16
        have c16b1 : (((rd_T35 l0_2 x6_1).f0) != 24) = false := bne_eq_false_iff_eq.mpr c16
        clear c16
        by_cases c17 : ((rd_T35 l0_2 x6_1).f1) = (wrap64 (x3_1 + 1))
        ·rw [if_pos c17] at H
         have c17b0 : (((rd_T35 l0_2 x6_1).f1) == (wrap64 (x3_1 + 1))) = true := beq_iff_eq.mpr c17
         have c17b1 : (((rd_T35 l0_2 x6_1).f1) != (wrap64 (x3_1 + 1))) = false := bne_eq_false_iff_eq.mpr c17
         clear c17
         replace H := Option.bind_eq_some_iff.mp H
         obtain ⟨t396, A180, H⟩ := H
         replace H : (if t396 = true then (if (wrap64 (x6_1 + 1)) ≥ (l0_2.length : Int) then (some false) else (if 0 ≤ (wrap64 (x6_1 + 1)) then (if (wrap64 (x6_1 + 1)) < (l0_2.length : Int) then (if ((rd_T35 l0_2 (wrap64 (x6_1 + 1))).f0) = 24 then (some false) else (if x6_1 = 0 then (bluebellref06_order.l0 kj9 (wrap64 (x3_1 + 1)) x4_1 x5_9 (wrap64 (x6_1 + 1)) a0_0 l0_1 l0_2 l0_3 a0_4 a0_5) else (bluebellref06_order.l0 kj9 (wrap64 (x3_1 + 1)) x4_1 x5_9 (wrap64 (x6_1 + 1)) a0_0 l0_1 l0_2 l0_3 a0_4 a0_5))) else (none)) else (none))) else (if x6_1 = 0 then (bluebellref06_order.l0 kj9 (wrap64 (x3_1 + 1)) x4_1 x5_9 (wrap64 (x6_1 + 1)) a0_0 l0_1 l0_2 l0_3 a0_4 a0_5) else (bluebellref06_order.l0 kj9 (wrap64 (x3_1 + 1)) x4_1 x5_9 (wrap64 (x6_1 + 1)) a0_0 l0_1 l0_2 l0_3 a0_4 a0_5))) = some r := H
         have A18 := Aside0.mk A180
         clear A180
         by_cases c19 : t396 = true
         ·subst c19
          have H1 : (if (wrap64 (x6_1 + 1)) ≥ (l0_2.length : Int) then (some false) else (if 0 ≤ (wrap64 (x6_1 + 1)) then (if (wrap64 (x6_1 + 1)) < (l0_2.length : Int) then (if ((rd_T35 l0_2 (wrap64 (x6_1 + 1))).f0) = 24 then (some false) else (if x6_1 = 0 then (bluebellref06_order.l0 kj9 (wrap64 (x3_1 + 1)) x4_1 x5_9 (wrap64 (x6_1 + 1)) a0_0 l0_1 l0_2 l0_3 a0_4 a0_5) else (bluebellref06_order.l0 kj9 (wrap64 (x3_1 + 1)) x4_1 x5_9 (wrap64 (x6_1 + 1)) a0_0 l0_1 l0_2 l0_3 a0_4 a0_5))) else (none)) else (none))) = some r := by rw [if_pos rfl] at H; exact H
          clear H
          have H := H1
          clear H1
          by_cases c20 : (wrap64 (x6_1 + 1)) ≥ (l0_2.length : Int)
          ·rw [if_pos c20] at H
           have c20b0 : decide ((l0_2.length : Int) ≤ (wrap64 (x6_1 + 1))) = true := decide_eq_true c20
           clear c20
           obtain rfl := Option.some.inj H
           have hnb21 := NB393_395.out
           have hnc21 := NB395_393.out
           obtain ⟨z22_0, z22_1, z22_2, z22_3, z22_4, z22_5, y22_0, y22_1, y22_2, y22_3, y22_4, y22_5⟩ := cells6 BK393.out
           obtain ⟨z23_0, z23_1, z23_2, y23_0, y23_1, y23_2⟩ := cells3 BK395.out
           go_wp2_with (first | ((with_reducible refine gate_callee (f := 72) rfl ?_); refine goesL_ (some 89) rfl rfl Try.func72 (by kernel_rfl) rfl #[.agg #[.int .i64 ((rd_T35 l0_2 x6_1).f0), .int .i64 ((rd_T35 l0_2 x6_1).f1), .int .i64 ((rd_T35 l0_2 x6_1).f2)]] rfl mpE ?_; (with_reducible refine (bluebellref06_GoesOn.calls ((rd_T35 l0_2 x6_1).f0) ((rd_T35 l0_2 x6_1).f1) ((rd_T35 l0_2 x6_1).f2) true _ A18.out).mono ?_); rintro e w24 ⟨rfl, hb⟩; refine ⟨_, rfl, ?_⟩; replace BK393 := Aside0.mk (bkb (g := gb393) hb); replace BK395 := Aside0.mk (bkb (g := gb395) hb); replace HB := Aside0.mk (bstep hb); (try clear hb)))
           go_ret
           exact ⟨erE, bw⟩
          ·rw [if_neg c20] at H
           have c20b0 : decide ((l0_2.length : Int) ≤ (wrap64 (x6_1 + 1))) = false := decide_eq_false c20
           clear c20
           obtain ⟨ji25, hji25⟩ : ∃ j_ : Int, (wrap64 (x6_1 + 1)) = j_ := ⟨_, rfl⟩
           replace H : (if 0 ≤ (ji25) then (if (ji25) < (l0_2.length : Int) then (if ((rd_T35 l0_2 (ji25)).f0) = 24 then (some false) else (if x6_1 = 0 then (bluebellref06_order.l0 kj9 (wrap64 (x3_1 + 1)) x4_1 x5_9 ji25 a0_0 l0_1 l0_2 l0_3 a0_4 a0_5) else (bluebellref06_order.l0 kj9 (wrap64 (x3_1 + 1)) x4_1 x5_9 ji25 a0_0 l0_1 l0_2 l0_3 a0_4 a0_5))) else (none)) else (none)) = some r := by first | (rw [hji25] at H; exact H) | (simp only [hji25] at H ⊢; exact H)
           (try rw [hji25] at c20b0)
           (try rw [hji25] at A18)
           have hji25w : (IntKind.i64.wrap (x6_1 + 1)) = ji25 := (i64_w _).trans hji25
           by_cases c26 : 0 ≤ (ji25)
           rotate_left
           ·rw [if_neg c26] at H
            exact absurd H (by simp)
           rw [if_pos c26] at H
           have c26b0 : decide (0 ≤ (ji25)) = true := decide_eq_true c26
           clear c26
           by_cases c27 : (ji25) < (l0_2.length : Int)
           rotate_left
           ·rw [if_neg c27] at H
            exact absurd H (by simp)
           rw [if_pos c27] at H
           have c27b0 : decide ((ji25) < (l0_2.length : Int)) = true := decide_eq_true c27
           clear c27
           by_cases c28 : ((rd_T35 l0_2 (ji25)).f0) = 24
           ·rw [if_pos c28] at H
            have c28b0 : (((rd_T35 l0_2 (ji25)).f0) == 24) = true := beq_iff_eq.mpr c28
            have c28b1 : (((rd_T35 l0_2 (ji25)).f0) != 24) = false := bne_eq_false_iff_eq.mpr c28
            clear c28
            obtain rfl := Option.some.inj H
            have hnb29 := NB393_395.out
            have hnc29 := NB395_393.out
            obtain ⟨z30_0, z30_1, z30_2, z30_3, z30_4, z30_5, y30_0, y30_1, y30_2, y30_3, y30_4, y30_5⟩ := cells6 BK393.out
            obtain ⟨z31_0, z31_1, z31_2, y31_0, y31_1, y31_2⟩ := cells3 BK395.out
            go_wp2_with (first | ((with_reducible refine gate_callee (f := 72) rfl ?_); refine goesL_ (some 89) rfl rfl Try.func72 (by kernel_rfl) rfl #[.agg #[.int .i64 ((rd_T35 l0_2 x6_1).f0), .int .i64 ((rd_T35 l0_2 x6_1).f1), .int .i64 ((rd_T35 l0_2 x6_1).f2)]] rfl mpE ?_; (with_reducible refine (bluebellref06_GoesOn.calls ((rd_T35 l0_2 x6_1).f0) ((rd_T35 l0_2 x6_1).f1) ((rd_T35 l0_2 x6_1).f2) true _ A18.out).mono ?_); rintro e w32 ⟨rfl, hb⟩; refine ⟨_, rfl, ?_⟩; replace BK393 := Aside0.mk (bkb (g := gb393) hb); replace BK395 := Aside0.mk (bkb (g := gb395) hb); replace HB := Aside0.mk (bstep hb); (try clear hb); obtain ⟨z33_0, z33_1, z33_2, z33_3, z33_4, z33_5, y33_0, y33_1, y33_2, y33_3, y33_4, y33_5⟩ := cells6 BK393.out; have p397 : 0 ≤ ((ji25) : Int) := ofd; have q397 : (ji25) < (l0_2.length : Int) := ofd; obtain ⟨ad397, e397, hx397_0, hx397_1, hx397_2⟩ := at_T35 HR0_2.out (ji25) p397 q397; obtain rfl : ad394 = ad397 := (by injection e397); replace hx397_0 := hxE HB.out hx397_0; replace hx397_1 := hxE HB.out hx397_1; replace hx397_2 := hxE HB.out hx397_2; replace p397 := eq_true p397; replace q397 := eq_true q397))
            go_ret
            exact ⟨by first | rfl | (simp [errW_none, errW_some] <;> rfl) | (simp only [← hji25]; first | rfl | (simp [errW_none, errW_some] <;> rfl)) | (simp [*, errW_none, errW_some] <;> rfl), bw⟩
           ·rw [if_neg c28] at H
            have c28b0 : (((rd_T35 l0_2 (ji25)).f0) == 24) = false := beq_eq_false_iff_ne.mpr c28
            have c28b1 : (((rd_T35 l0_2 (ji25)).f0) != 24) = true := bne_iff_ne.mpr c28
            by_cases c34 : x6_1 = 0
            ·rw [if_pos c34] at H
             have c34b0 : (x6_1 == 0) = true := beq_iff_eq.mpr c34
             have c34b1 : (x6_1 != 0) = false := bne_eq_false_iff_eq.mpr c34
             clear c34
             have H' := Aside0.mk H
             clear H
             have hnb35 := NB393_395.out
             have hnc35 := NB395_393.out
             obtain ⟨z36_0, z36_1, z36_2, z36_3, z36_4, z36_5, y36_0, y36_1, y36_2, y36_3, y36_4, y36_5⟩ := cells6 BK393.out
             obtain ⟨z37_0, z37_1, z37_2, y37_0, y37_1, y37_2⟩ := cells3 BK395.out
             go_wp2_with (first | ((with_reducible refine gate_callee (f := 72) rfl ?_); refine goesL_ (some 89) rfl rfl Try.func72 (by kernel_rfl) rfl #[.agg #[.int .i64 ((rd_T35 l0_2 x6_1).f0), .int .i64 ((rd_T35 l0_2 x6_1).f1), .int .i64 ((rd_T35 l0_2 x6_1).f2)]] rfl mpE ?_; (with_reducible refine (bluebellref06_GoesOn.calls ((rd_T35 l0_2 x6_1).f0) ((rd_T35 l0_2 x6_1).f1) ((rd_T35 l0_2 x6_1).f2) true _ A18.out).mono ?_); rintro e w38 ⟨rfl, hb⟩; refine ⟨_, rfl, ?_⟩; replace BK393 := Aside0.mk (bkb (g := gb393) hb); replace BK395 := Aside0.mk (bkb (g := gb395) hb); replace HB := Aside0.mk (bstep hb); (try clear hb); obtain ⟨z39_0, z39_1, z39_2, z39_3, z39_4, z39_5, y39_0, y39_1, y39_2, y39_3, y39_4, y39_5⟩ := cells6 BK393.out; have p397 : 0 ≤ ((ji25) : Int) := ofd; have q397 : (ji25) < (l0_2.length : Int) := ofd; obtain ⟨ad397, e397, hx397_0, hx397_1, hx397_2⟩ := at_T35 HR0_2.out (ji25) p397 q397; obtain rfl : ad394 = ad397 := (by injection e397); replace hx397_0 := hxE HB.out hx397_0; replace hx397_1 := hxE HB.out hx397_1; replace hx397_2 := hxE HB.out hx397_2; replace p397 := eq_true p397; replace q397 := eq_true q397; obtain ⟨z40_0, z40_1, z40_2, y40_0, y40_1, y40_2⟩ := cells3 BK395.out))
             go_roundg kj9
             case measure => have := HK1.out; have := HJ9.out; omega
             case rel => exact ⟨(wrap64 (x3_1 + 1)), (x4_1), (x5_9), (ji25), wrE, wrE, wrE, (by first | rfl | (simp; done) | (simp only [← hji25] <;> (first | rfl | simp)) | (simp [*]; done)), H', ⟨by have := HK1.out; have := HJ9.out; omega⟩, ⟨bk⟩, ⟨bw⟩⟩
            ·rw [if_neg c34] at H
             have c34b0 : (x6_1 == 0) = false := beq_eq_false_iff_ne.mpr c34
             have c34b1 : (x6_1 != 0) = true := bne_iff_ne.mpr c34
             have H' := Aside0.mk H
             clear H
             have hnb41 := NB393_395.out
             have hnc41 := NB395_393.out
             obtain ⟨z42_0, z42_1, z42_2, z42_3, z42_4, z42_5, y42_0, y42_1, y42_2, y42_3, y42_4, y42_5⟩ := cells6 BK393.out
             obtain ⟨z43_0, z43_1, z43_2, y43_0, y43_1, y43_2⟩ := cells3 BK395.out
             go_wp2_with (first | ((with_reducible refine gate_callee (f := 72) rfl ?_); refine goesL_ (some 89) rfl rfl Try.func72 (by kernel_rfl) rfl #[.agg #[.int .i64 ((rd_T35 l0_2 x6_1).f0), .int .i64 ((rd_T35 l0_2 x6_1).f1), .int .i64 ((rd_T35 l0_2 x6_1).f2)]] rfl mpE ?_; (with_reducible refine (bluebellref06_GoesOn.calls ((rd_T35 l0_2 x6_1).f0) ((rd_T35 l0_2 x6_1).f1) ((rd_T35 l0_2 x6_1).f2) true _ A18.out).mono ?_); rintro e w44 ⟨rfl, hb⟩; refine ⟨_, rfl, ?_⟩; replace BK393 := Aside0.mk (bkb (g := gb393) hb); replace BK395 := Aside0.mk (bkb (g := gb395) hb); replace HB := Aside0.mk (bstep hb); (try clear hb); obtain ⟨z45_0, z45_1, z45_2, z45_3, z45_4, z45_5, y45_0, y45_1, y45_2, y45_3, y45_4, y45_5⟩ := cells6 BK393.out; have p397 : 0 ≤ ((ji25) : Int) := ofd; have q397 : (ji25) < (l0_2.length : Int) := ofd; obtain ⟨ad397, e397, hx397_0, hx397_1, hx397_2⟩ := at_T35 HR0_2.out (ji25) p397 q397; obtain rfl : ad394 = ad397 := (by injection e397); replace hx397_0 := hxE HB.out hx397_0; replace hx397_1 := hxE HB.out hx397_1; replace hx397_2 := hxE HB.out hx397_2; replace p397 := eq_true p397; replace q397 := eq_true q397))
             go_roundg kj9
             case measure => have := HK1.out; have := HJ9.out; omega
             case rel => exact ⟨(wrap64 (x3_1 + 1)), (x4_1), (x5_9), (ji25), wrE, wrE, wrE, (by first | rfl | (simp; done) | (simp only [← hji25] <;> (first | rfl | simp)) | (simp [*]; done)), H', ⟨by have := HK1.out; have := HJ9.out; omega⟩, ⟨bk⟩, ⟨bw⟩⟩
         ·replace c19 := Bool.eq_false_iff.mpr c19
          subst c19
          have H1 : (if x6_1 = 0 then (bluebellref06_order.l0 kj9 (wrap64 (x3_1 + 1)) x4_1 x5_9 (wrap64 (x6_1 + 1)) a0_0 l0_1 l0_2 l0_3 a0_4 a0_5) else (bluebellref06_order.l0 kj9 (wrap64 (x3_1 + 1)) x4_1 x5_9 (wrap64 (x6_1 + 1)) a0_0 l0_1 l0_2 l0_3 a0_4 a0_5)) = some r := by rw [if_neg (show ¬ (false = true) by decide)] at H; exact H
          clear H
          have H := H1
          clear H1
          by_cases c46 : x6_1 = 0
          ·rw [if_pos c46] at H
           have c46b0 : (x6_1 == 0) = true := beq_iff_eq.mpr c46
           have c46b1 : (x6_1 != 0) = false := bne_eq_false_iff_eq.mpr c46
           clear c46
           have H' := Aside0.mk H
           clear H
           have hnb47 := NB393_395.out
           have hnc47 := NB395_393.out
           obtain ⟨z48_0, z48_1, z48_2, z48_3, z48_4, z48_5, y48_0, y48_1, y48_2, y48_3, y48_4, y48_5⟩ := cells6 BK393.out
           obtain ⟨z49_0, z49_1, z49_2, y49_0, y49_1, y49_2⟩ := cells3 BK395.out
           go_wp2_with (first | ((with_reducible refine gate_callee (f := 72) rfl ?_); refine goesL_ (some 89) rfl rfl Try.func72 (by kernel_rfl) rfl #[.agg #[.int .i64 ((rd_T35 l0_2 x6_1).f0), .int .i64 ((rd_T35 l0_2 x6_1).f1), .int .i64 ((rd_T35 l0_2 x6_1).f2)]] rfl mpE ?_; (with_reducible refine (bluebellref06_GoesOn.calls ((rd_T35 l0_2 x6_1).f0) ((rd_T35 l0_2 x6_1).f1) ((rd_T35 l0_2 x6_1).f2) false _ A18.out).mono ?_); rintro e w50 ⟨rfl, hb⟩; refine ⟨_, rfl, ?_⟩; replace BK393 := Aside0.mk (bkb (g := gb393) hb); replace BK395 := Aside0.mk (bkb (g := gb395) hb); replace HB := Aside0.mk (bstep hb); (try clear hb); obtain ⟨z51_0, z51_1, z51_2, y51_0, y51_1, y51_2⟩ := cells3 BK395.out))
           go_roundg kj9
           case measure => have := HK1.out; have := HJ9.out; omega
           case rel => exact ⟨(wrap64 (x3_1 + 1)), (x4_1), (x5_9), (wrap64 (x6_1 + 1)), wrE, wrE, wrE, wrE, H', ⟨by have := HK1.out; have := HJ9.out; omega⟩, ⟨bk⟩, ⟨bw⟩⟩
          ·rw [if_neg c46] at H
           have c46b0 : (x6_1 == 0) = false := beq_eq_false_iff_ne.mpr c46
           have c46b1 : (x6_1 != 0) = true := bne_iff_ne.mpr c46
           have H' := Aside0.mk H
           clear H
           have hnb52 := NB393_395.out
           have hnc52 := NB395_393.out
           obtain ⟨z53_0, z53_1, z53_2, z53_3, z53_4, z53_5, y53_0, y53_1, y53_2, y53_3, y53_4, y53_5⟩ := cells6 BK393.out
           obtain ⟨z54_0, z54_1, z54_2, y54_0, y54_1, y54_2⟩ := cells3 BK395.out
           go_wp2_with (first | ((with_reducible refine gate_callee (f := 72) rfl ?_); refine goesL_ (some 89) rfl rfl Try.func72 (by kernel_rfl) rfl #[.agg #[.int .i64 ((rd_T35 l0_2 x6_1).f0), .int .i64 ((rd_T35 l0_2 x6_1).f1), .int .i64 ((rd_T35 l0_2 x6_1).f2)]] rfl mpE ?_; (with_reducible refine (bluebellref06_GoesOn.calls ((rd_T35 l0_2 x6_1).f0) ((rd_T35 l0_2 x6_1).f1) ((rd_T35 l0_2 x6_1).f2) false _ A18.out).mono ?_); rintro e w55 ⟨rfl, hb⟩; refine ⟨_, rfl, ?_⟩; replace BK393 := Aside0.mk (bkb (g := gb393) hb); replace BK395 := Aside0.mk (bkb (g := gb395) hb); replace HB := Aside0.mk (bstep hb); (try clear hb)))
           go_roundg kj9
           case measure => have := HK1.out; have := HJ9.out; omega
           case rel => exact ⟨(wrap64 (x3_1 + 1)), (x4_1), (x5_9), (wrap64 (x6_1 + 1)), wrE, wrE, wrE, wrE, H', ⟨by have := HK1.out; have := HJ9.out; omega⟩, ⟨bk⟩, ⟨bw⟩⟩
        ·rw [if_neg c17] at H
         have c17b0 : (((rd_T35 l0_2 x6_1).f1) == (wrap64 (x3_1 + 1))) = false := beq_eq_false_iff_ne.mpr c17
         have c17b1 : (((rd_T35 l0_2 x6_1).f1) != (wrap64 (x3_1 + 1))) = true := bne_iff_ne.mpr c17
         obtain rfl := Option.some.inj H
         have hnb56 := NB393_395.out
         have hnc56 := NB395_393.out
         obtain ⟨z57_0, z57_1, z57_2, z57_3, z57_4, z57_5, y57_0, y57_1, y57_2, y57_3, y57_4, y57_5⟩ := cells6 BK393.out
         obtain ⟨z58_0, z58_1, z58_2, y58_0, y58_1, y58_2⟩ := cells3 BK395.out
         go_wp2
         go_ret
         exact ⟨erE, bw⟩
       ·rw [if_neg c16] at H
        have c16b0 : (((rd_T35 l0_2 x6_1).f0) == 24) = false := beq_eq_false_iff_ne.mpr c16
        have c16b1 : (((rd_T35 l0_2 x6_1).f0) != 24) = true := bne_iff_ne.mpr c16
        by_cases c59 : ((rd_T35 l0_2 x6_1).f0) = 29
        ·rw [if_pos c59] at H
         have c59b0 : (((rd_T35 l0_2 x6_1).f0) == 29) = true := beq_iff_eq.mpr c59
         have c59b1 : (((rd_T35 l0_2 x6_1).f0) != 29) = false := bne_eq_false_iff_eq.mpr c59
         clear c59
         replace H := Option.bind_eq_some_iff.mp H
         obtain ⟨t398, A600, H⟩ := H
         replace H : (if t398 = true then (if (wrap64 (x6_1 + 1)) ≥ (l0_2.length : Int) then (some false) else (if 0 ≤ (wrap64 (x6_1 + 1)) then (if (wrap64 (x6_1 + 1)) < (l0_2.length : Int) then (if ((rd_T35 l0_2 (wrap64 (x6_1 + 1))).f0) = 24 then (some false) else (if x6_1 = 0 then (some false) else (bluebellref06_order.l0 kj9 x3_1 x4_1 ((rd_T35 l0_2 x6_1).f2) (wrap64 (x6_1 + 1)) a0_0 l0_1 l0_2 l0_3 a0_4 a0_5))) else (none)) else (none))) else (if x6_1 = 0 then (some false) else (bluebellref06_order.l0 kj9 x3_1 x4_1 ((rd_T35 l0_2 x6_1).f2) (wrap64 (x6_1 + 1)) a0_0 l0_1 l0_2 l0_3 a0_4 a0_5))) = some r := H
         have A60 := Aside0.mk A600
         clear A600
         by_cases c61 : t398 = true
         ·subst c61
          have H1 : (if (wrap64 (x6_1 + 1)) ≥ (l0_2.length : Int) then (some false) else (if 0 ≤ (wrap64 (x6_1 + 1)) then (if (wrap64 (x6_1 + 1)) < (l0_2.length : Int) then (if ((rd_T35 l0_2 (wrap64 (x6_1 + 1))).f0) = 24 then (some false) else (if x6_1 = 0 then (some false) else (bluebellref06_order.l0 kj9 x3_1 x4_1 ((rd_T35 l0_2 x6_1).f2) (wrap64 (x6_1 + 1)) a0_0 l0_1 l0_2 l0_3 a0_4 a0_5))) else (none)) else (none))) = some r := by rw [if_pos rfl] at H; exact H
          clear H
          have H := H1
          clear H1
          by_cases c62 : (wrap64 (x6_1 + 1)) ≥ (l0_2.length : Int)
          ·rw [if_pos c62] at H
           have c62b0 : decide ((l0_2.length : Int) ≤ (wrap64 (x6_1 + 1))) = true := decide_eq_true c62
           clear c62
           obtain rfl := Option.some.inj H
           have hnb63 := NB393_395.out
           have hnc63 := NB395_393.out
           obtain ⟨z64_0, z64_1, z64_2, z64_3, z64_4, z64_5, y64_0, y64_1, y64_2, y64_3, y64_4, y64_5⟩ := cells6 BK393.out
           obtain ⟨z65_0, z65_1, z65_2, y65_0, y65_1, y65_2⟩ := cells3 BK395.out
           go_wp2_with (first | ((with_reducible refine gate_callee (f := 72) rfl ?_); refine goesL_ (some 89) rfl rfl Try.func72 (by kernel_rfl) rfl #[.agg #[.int .i64 ((rd_T35 l0_2 x6_1).f0), .int .i64 ((rd_T35 l0_2 x6_1).f1), .int .i64 ((rd_T35 l0_2 x6_1).f2)]] rfl mpE ?_; (with_reducible refine (bluebellref06_GoesOn.calls ((rd_T35 l0_2 x6_1).f0) ((rd_T35 l0_2 x6_1).f1) ((rd_T35 l0_2 x6_1).f2) true _ A60.out).mono ?_); rintro e w66 ⟨rfl, hb⟩; refine ⟨_, rfl, ?_⟩; replace BK393 := Aside0.mk (bkb (g := gb393) hb); replace BK395 := Aside0.mk (bkb (g := gb395) hb); replace HB := Aside0.mk (bstep hb); (try clear hb)))
           go_ret
           exact ⟨erE, bw⟩
          ·rw [if_neg c62] at H
           have c62b0 : decide ((l0_2.length : Int) ≤ (wrap64 (x6_1 + 1))) = false := decide_eq_false c62
           clear c62
           obtain ⟨ji67, hji67⟩ : ∃ j_ : Int, (wrap64 (x6_1 + 1)) = j_ := ⟨_, rfl⟩
           replace H : (if 0 ≤ (ji67) then (if (ji67) < (l0_2.length : Int) then (if ((rd_T35 l0_2 (ji67)).f0) = 24 then (some false) else (if x6_1 = 0 then (some false) else (bluebellref06_order.l0 kj9 x3_1 x4_1 ((rd_T35 l0_2 x6_1).f2) ji67 a0_0 l0_1 l0_2 l0_3 a0_4 a0_5))) else (none)) else (none)) = some r := by first | (rw [hji67] at H; exact H) | (simp only [hji67] at H ⊢; exact H)
           (try rw [hji67] at c62b0)
           (try rw [hji67] at A60)
           have hji67w : (IntKind.i64.wrap (x6_1 + 1)) = ji67 := (i64_w _).trans hji67
           by_cases c68 : 0 ≤ (ji67)
           rotate_left
           ·rw [if_neg c68] at H
            exact absurd H (by simp)
           rw [if_pos c68] at H
           have c68b0 : decide (0 ≤ (ji67)) = true := decide_eq_true c68
           clear c68
           by_cases c69 : (ji67) < (l0_2.length : Int)
           rotate_left
           ·rw [if_neg c69] at H
            exact absurd H (by simp)
           rw [if_pos c69] at H
           have c69b0 : decide ((ji67) < (l0_2.length : Int)) = true := decide_eq_true c69
           clear c69
           by_cases c70 : ((rd_T35 l0_2 (ji67)).f0) = 24
           ·rw [if_pos c70] at H
            have c70b0 : (((rd_T35 l0_2 (ji67)).f0) == 24) = true := beq_iff_eq.mpr c70
            have c70b1 : (((rd_T35 l0_2 (ji67)).f0) != 24) = false := bne_eq_false_iff_eq.mpr c70
            clear c70
            obtain rfl := Option.some.inj H
            have hnb71 := NB393_395.out
            have hnc71 := NB395_393.out
            obtain ⟨z72_0, z72_1, z72_2, z72_3, z72_4, z72_5, y72_0, y72_1, y72_2, y72_3, y72_4, y72_5⟩ := cells6 BK393.out
            obtain ⟨z73_0, z73_1, z73_2, y73_0, y73_1, y73_2⟩ := cells3 BK395.out
            go_wp2_with (first | ((with_reducible refine gate_callee (f := 72) rfl ?_); refine goesL_ (some 89) rfl rfl Try.func72 (by kernel_rfl) rfl #[.agg #[.int .i64 ((rd_T35 l0_2 x6_1).f0), .int .i64 ((rd_T35 l0_2 x6_1).f1), .int .i64 ((rd_T35 l0_2 x6_1).f2)]] rfl mpE ?_; (with_reducible refine (bluebellref06_GoesOn.calls ((rd_T35 l0_2 x6_1).f0) ((rd_T35 l0_2 x6_1).f1) ((rd_T35 l0_2 x6_1).f2) true _ A60.out).mono ?_); rintro e w74 ⟨rfl, hb⟩; refine ⟨_, rfl, ?_⟩; replace BK393 := Aside0.mk (bkb (g := gb393) hb); replace BK395 := Aside0.mk (bkb (g := gb395) hb); replace HB := Aside0.mk (bstep hb); (try clear hb); obtain ⟨z75_0, z75_1, z75_2, z75_3, z75_4, z75_5, y75_0, y75_1, y75_2, y75_3, y75_4, y75_5⟩ := cells6 BK393.out; have p399 : 0 ≤ ((ji67) : Int) := ofd; have q399 : (ji67) < (l0_2.length : Int) := ofd; obtain ⟨ad399, e399, hx399_0, hx399_1, hx399_2⟩ := at_T35 HR0_2.out (ji67) p399 q399; obtain rfl : ad394 = ad399 := (by injection e399); replace hx399_0 := hxE HB.out hx399_0; replace hx399_1 := hxE HB.out hx399_1; replace hx399_2 := hxE HB.out hx399_2; replace p399 := eq_true p399; replace q399 := eq_true q399))
            go_ret
            exact ⟨by first | rfl | (simp [errW_none, errW_some] <;> rfl) | (simp only [← hji67]; first | rfl | (simp [errW_none, errW_some] <;> rfl)) | (simp [*, errW_none, errW_some] <;> rfl), bw⟩
           ·rw [if_neg c70] at H
            have c70b0 : (((rd_T35 l0_2 (ji67)).f0) == 24) = false := beq_eq_false_iff_ne.mpr c70
            have c70b1 : (((rd_T35 l0_2 (ji67)).f0) != 24) = true := bne_iff_ne.mpr c70
            by_cases c76 : x6_1 = 0
            ·rw [if_pos c76] at H
             have c76b0 : (x6_1 == 0) = true := beq_iff_eq.mpr c76
             have c76b1 : (x6_1 != 0) = false := bne_eq_false_iff_eq.mpr c76
             clear c76
             obtain rfl := Option.some.inj H
             have hnb77 := NB393_395.out
             have hnc77 := NB395_393.out
             obtain ⟨z78_0, z78_1, z78_2, z78_3, z78_4, z78_5, y78_0, y78_1, y78_2, y78_3, y78_4, y78_5⟩ := cells6 BK393.out
             obtain ⟨z79_0, z79_1, z79_2, y79_0, y79_1, y79_2⟩ := cells3 BK395.out
             go_wp2_with (first | ((with_reducible refine gate_callee (f := 72) rfl ?_); refine goesL_ (some 89) rfl rfl Try.func72 (by kernel_rfl) rfl #[.agg #[.int .i64 ((rd_T35 l0_2 x6_1).f0), .int .i64 ((rd_T35 l0_2 x6_1).f1), .int .i64 ((rd_T35 l0_2 x6_1).f2)]] rfl mpE ?_; (with_reducible refine (bluebellref06_GoesOn.calls ((rd_T35 l0_2 x6_1).f0) ((rd_T35 l0_2 x6_1).f1) ((rd_T35 l0_2 x6_1).f2) true _ A60.out).mono ?_); rintro e w80 ⟨rfl, hb⟩; refine ⟨_, rfl, ?_⟩; replace BK393 := Aside0.mk (bkb (g := gb393) hb); replace BK395 := Aside0.mk (bkb (g := gb395) hb); replace HB := Aside0.mk (bstep hb); (try clear hb); obtain ⟨z81_0, z81_1, z81_2, z81_3, z81_4, z81_5, y81_0, y81_1, y81_2, y81_3, y81_4, y81_5⟩ := cells6 BK393.out; have p399 : 0 ≤ ((ji67) : Int) := ofd; have q399 : (ji67) < (l0_2.length : Int) := ofd; obtain ⟨ad399, e399, hx399_0, hx399_1, hx399_2⟩ := at_T35 HR0_2.out (ji67) p399 q399; obtain rfl : ad394 = ad399 := (by injection e399); replace hx399_0 := hxE HB.out hx399_0; replace hx399_1 := hxE HB.out hx399_1; replace hx399_2 := hxE HB.out hx399_2; replace p399 := eq_true p399; replace q399 := eq_true q399; obtain ⟨z82_0, z82_1, z82_2, y82_0, y82_1, y82_2⟩ := cells3 BK395.out))
             go_ret
             exact ⟨by first | rfl | (simp [errW_none, errW_some] <;> rfl) | (simp only [← hji67]; first | rfl | (simp [errW_none, errW_some] <;> rfl)) | (simp [*, errW_none, errW_some] <;> rfl), bw⟩
            ·rw [if_neg c76] at H
             have c76b0 : (x6_1 == 0) = false := beq_eq_false_iff_ne.mpr c76
             have c76b1 : (x6_1 != 0) = true := bne_iff_ne.mpr c76
             have H' := Aside0.mk H
             clear H
             have hnb83 := NB393_395.out
             have hnc83 := NB395_393.out
             obtain ⟨z84_0, z84_1, z84_2, z84_3, z84_4, z84_5, y84_0, y84_1, y84_2, y84_3, y84_4, y84_5⟩ := cells6 BK393.out
             obtain ⟨z85_0, z85_1, z85_2, y85_0, y85_1, y85_2⟩ := cells3 BK395.out
             go_wp2_with (first | ((with_reducible refine gate_callee (f := 72) rfl ?_); refine goesL_ (some 89) rfl rfl Try.func72 (by kernel_rfl) rfl #[.agg #[.int .i64 ((rd_T35 l0_2 x6_1).f0), .int .i64 ((rd_T35 l0_2 x6_1).f1), .int .i64 ((rd_T35 l0_2 x6_1).f2)]] rfl mpE ?_; (with_reducible refine (bluebellref06_GoesOn.calls ((rd_T35 l0_2 x6_1).f0) ((rd_T35 l0_2 x6_1).f1) ((rd_T35 l0_2 x6_1).f2) true _ A60.out).mono ?_); rintro e w86 ⟨rfl, hb⟩; refine ⟨_, rfl, ?_⟩; replace BK393 := Aside0.mk (bkb (g := gb393) hb); replace BK395 := Aside0.mk (bkb (g := gb395) hb); replace HB := Aside0.mk (bstep hb); (try clear hb); obtain ⟨z87_0, z87_1, z87_2, z87_3, z87_4, z87_5, y87_0, y87_1, y87_2, y87_3, y87_4, y87_5⟩ := cells6 BK393.out; have p399 : 0 ≤ ((ji67) : Int) := ofd; have q399 : (ji67) < (l0_2.length : Int) := ofd; obtain ⟨ad399, e399, hx399_0, hx399_1, hx399_2⟩ := at_T35 HR0_2.out (ji67) p399 q399; obtain rfl : ad394 = ad399 := (by injection e399); replace hx399_0 := hxE HB.out hx399_0; replace hx399_1 := hxE HB.out hx399_1; replace hx399_2 := hxE HB.out hx399_2; replace p399 := eq_true p399; replace q399 := eq_true q399))
             go_roundg kj9
             case measure => have := HK1.out; have := HJ9.out; omega
             case rel => exact ⟨(x3_1), (x4_1), (((rd_T35 l0_2 x6_1).f2)), (ji67), wrE, wrE, wrE, (by first | rfl | (simp; done) | (simp only [← hji67] <;> (first | rfl | simp)) | (simp [*]; done)), H', ⟨by have := HK1.out; have := HJ9.out; omega⟩, ⟨bk⟩, ⟨bw⟩⟩
         ·replace c61 := Bool.eq_false_iff.mpr c61
          subst c61
          have H1 : (if x6_1 = 0 then (some false) else (bluebellref06_order.l0 kj9 x3_1 x4_1 ((rd_T35 l0_2 x6_1).f2) (wrap64 (x6_1 + 1)) a0_0 l0_1 l0_2 l0_3 a0_4 a0_5)) = some r := by rw [if_neg (show ¬ (false = true) by decide)] at H; exact H
          clear H
          have H := H1
          clear H1
          by_cases c88 : x6_1 = 0
          ·rw [if_pos c88] at H
           have c88b0 : (x6_1 == 0) = true := beq_iff_eq.mpr c88
           have c88b1 : (x6_1 != 0) = false := bne_eq_false_iff_eq.mpr c88
           clear c88
           obtain rfl := Option.some.inj H
           have hnb89 := NB393_395.out
           have hnc89 := NB395_393.out
           obtain ⟨z90_0, z90_1, z90_2, z90_3, z90_4, z90_5, y90_0, y90_1, y90_2, y90_3, y90_4, y90_5⟩ := cells6 BK393.out
           obtain ⟨z91_0, z91_1, z91_2, y91_0, y91_1, y91_2⟩ := cells3 BK395.out
           go_wp2_with (first | ((with_reducible refine gate_callee (f := 72) rfl ?_); refine goesL_ (some 89) rfl rfl Try.func72 (by kernel_rfl) rfl #[.agg #[.int .i64 ((rd_T35 l0_2 x6_1).f0), .int .i64 ((rd_T35 l0_2 x6_1).f1), .int .i64 ((rd_T35 l0_2 x6_1).f2)]] rfl mpE ?_; (with_reducible refine (bluebellref06_GoesOn.calls ((rd_T35 l0_2 x6_1).f0) ((rd_T35 l0_2 x6_1).f1) ((rd_T35 l0_2 x6_1).f2) false _ A60.out).mono ?_); rintro e w92 ⟨rfl, hb⟩; refine ⟨_, rfl, ?_⟩; replace BK393 := Aside0.mk (bkb (g := gb393) hb); replace BK395 := Aside0.mk (bkb (g := gb395) hb); replace HB := Aside0.mk (bstep hb); (try clear hb); obtain ⟨z93_0, z93_1, z93_2, y93_0, y93_1, y93_2⟩ := cells3 BK395.out))
           go_ret
           exact ⟨erE, bw⟩
          ·rw [if_neg c88] at H
           have c88b0 : (x6_1 == 0) = false := beq_eq_false_iff_ne.mpr c88
           have c88b1 : (x6_1 != 0) = true := bne_iff_ne.mpr c88
           have H' := Aside0.mk H
           clear H
           have hnb94 := NB393_395.out
           have hnc94 := NB395_393.out
           obtain ⟨z95_0, z95_1, z95_2, z95_3, z95_4, z95_5, y95_0, y95_1, y95_2, y95_3, y95_4, y95_5⟩ := cells6 BK393.out
           obtain ⟨z96_0, z96_1, z96_2, y96_0, y96_1, y96_2⟩ := cells3 BK395.out
           go_wp2_with (first | ((with_reducible refine gate_callee (f := 72) rfl ?_); refine goesL_ (some 89) rfl rfl Try.func72 (by kernel_rfl) rfl #[.agg #[.int .i64 ((rd_T35 l0_2 x6_1).f0), .int .i64 ((rd_T35 l0_2 x6_1).f1), .int .i64 ((rd_T35 l0_2 x6_1).f2)]] rfl mpE ?_; (with_reducible refine (bluebellref06_GoesOn.calls ((rd_T35 l0_2 x6_1).f0) ((rd_T35 l0_2 x6_1).f1) ((rd_T35 l0_2 x6_1).f2) false _ A60.out).mono ?_); rintro e w97 ⟨rfl, hb⟩; refine ⟨_, rfl, ?_⟩; replace BK393 := Aside0.mk (bkb (g := gb393) hb); replace BK395 := Aside0.mk (bkb (g := gb395) hb); replace HB := Aside0.mk (bstep hb); (try clear hb)))
           go_roundg kj9
           case measure => have := HK1.out; have := HJ9.out; omega
           case rel => exact ⟨(x3_1), (x4_1), (((rd_T35 l0_2 x6_1).f2)), (wrap64 (x6_1 + 1)), wrE, wrE, wrE, wrE, H', ⟨by have := HK1.out; have := HJ9.out; omega⟩, ⟨bk⟩, ⟨bw⟩⟩
        ·rw [if_neg c59] at H
         have c59b0 : (((rd_T35 l0_2 x6_1).f0) == 29) = false := beq_eq_false_iff_ne.mpr c59
         have c59b1 : (((rd_T35 l0_2 x6_1).f0) != 29) = true := bne_iff_ne.mpr c59
         by_cases c98 : ((rd_T35 l0_2 x6_1).f0) = 19
         ·rw [if_pos c98] at H
          have c98b0 : (((rd_T35 l0_2 x6_1).f0) == 19) = true := beq_iff_eq.mpr c98
          have c98b1 : (((rd_T35 l0_2 x6_1).f0) != 19) = false := bne_eq_false_iff_eq.mpr c98
          clear c98
          obtain ⟨ji99, hji99⟩ : ∃ j_ : Int, (mx x4_1 ((rd_T35 l0_2 x6_1).f1)) = j_ := ⟨_, rfl⟩
          replace H : (if (wrap64 (x6_1 + 1)) ≥ (l0_2.length : Int) then (bluebellref06_order.j2 kj9 x3_1 ji99 x5_9 x6_1 (decide ((wrap64 (x6_1 + 1)) ≥ (l0_2.length : Int))) true a0_0 l0_1 l0_2 l0_3 a0_4 a0_5 ((rd_T35 l0_2 x6_1).f0) ((rd_T35 l0_2 x6_1).f1) ((rd_T35 l0_2 x6_1).f2)) else (if 0 ≤ (wrap64 (x6_1 + 1)) then (if (wrap64 (x6_1 + 1)) < (l0_2.length : Int) then (if ((rd_T35 l0_2 (wrap64 (x6_1 + 1))).f0) = 18 then (bluebellref06_order.j2 kj9 x3_1 ji99 x5_9 x6_1 (decide ((wrap64 (x6_1 + 1)) ≥ (l0_2.length : Int))) false a0_0 l0_1 l0_2 l0_3 a0_4 a0_5 ((rd_T35 l0_2 x6_1).f0) ((rd_T35 l0_2 x6_1).f1) ((rd_T35 l0_2 x6_1).f2)) else (if ((rd_T35 l0_2 (wrap64 (x6_1 + 1))).f0) = 28 then (bluebellref06_order.j2 kj9 x3_1 ji99 x5_9 x6_1 (decide ((wrap64 (x6_1 + 1)) ≥ (l0_2.length : Int))) false a0_0 l0_1 l0_2 l0_3 a0_4 a0_5 ((rd_T35 l0_2 x6_1).f0) ((rd_T35 l0_2 x6_1).f1) ((rd_T35 l0_2 x6_1).f2)) else (bluebellref06_order.j2 kj9 x3_1 ji99 x5_9 x6_1 (decide ((wrap64 (x6_1 + 1)) ≥ (l0_2.length : Int))) (((rd_T35 l0_2 (wrap64 (x6_1 + 1))).f0) != 19) a0_0 l0_1 l0_2 l0_3 a0_4 a0_5 ((rd_T35 l0_2 x6_1).f0) ((rd_T35 l0_2 x6_1).f1) ((rd_T35 l0_2 x6_1).f2)))) else (none)) else (none))) = some r := by first | (rw [hji99] at H; exact H) | (simp only [hji99] at H ⊢; exact H)
          have hji99_ : (if x4_1 < ((rd_T35 l0_2 x6_1).f1) then ((rd_T35 l0_2 x6_1).f1) else x4_1) = ji99 := hji99
          have HC100 := Aside0.mk H
          clear H
          have hnb101 := NB393_395.out
          have hnc101 := NB395_393.out
          obtain ⟨z102_0, z102_1, z102_2, z102_3, z102_4, z102_5, y102_0, y102_1, y102_2, y102_3, y102_4, y102_5⟩ := cells6 BK393.out
          obtain ⟨z103_0, z103_1, z103_2, y103_0, y103_1, y103_2⟩ := cells3 BK395.out
          go_upto_region 20 with (fail)
          go_cut [87] (fun v87 wc => ∃ (kq : Nat) (x87_99 : Bool), v87 = .bool x87_99 ∧ Aside0 (bluebellref06_order.j2 kq x3_1 ji99 x5_9 x6_1 (decide ((wrap64 (x6_1 + 1)) ≥ (l0_2.length : Int))) x87_99 a0_0 l0_1 l0_2 l0_3 a0_4 a0_5 ((rd_T35 l0_2 x6_1).f0) ((rd_T35 l0_2 x6_1).f1) ((rd_T35 l0_2 x6_1).f2) = some r) ∧ Aside0 (kq ≤ kj9) ∧ Aside0 (wc.heap[gb393]? = some (.cells #[.string a0_0, (.slice A0_1 l0_1.length c0_1), (.slice (some ad394) l0_2.length c0_2), (.slice A0_3 l0_3.length c0_3), .int .i64 a0_4, .int .i64 a0_5] 26 (0, 0))) ∧ Aside0 (wc.heap[gb395]? = some (.cells #[.int .i64 ((rd_T35 l0_2 x6_1).f0), .int .i64 ((rd_T35 l0_2 x6_1).f1), .int .i64 ((rd_T35 l0_2 x6_1).f2)] 35 (0, 0))) ∧ Aside0 (Below w.heap.size w wc))
          case first =>
           have H := HC100.out
           clear HC100
           by_cases c104 : (wrap64 (x6_1 + 1)) ≥ (l0_2.length : Int)
           ·rw [if_pos c104] at H
            have c104b0 : decide ((l0_2.length : Int) ≤ (wrap64 (x6_1 + 1))) = true := decide_eq_true c104
            clear c104
            (first | rw [c104b0] | (simp only [i64_w, i32_w]; rw [c104b0]) | skip)
            have H' := Aside0.mk H
            clear H
            go_wp2
            (first | go_meet | (refine Met.intro ?_; go_step; (repeat apply Exists.intro); refine ⟨?rel, ?fr_⟩; (case fr_ => first | (simp only [c104b0]; done) | (simp only [c104b0]; rfl) | (simp only [c104b0]; rfl))))
            case rel => exact ⟨_, (true), wrE, H', ⟨by have := HK1.out; have := HJ9.out; first | omega | exact Nat.le_refl _⟩, ⟨bk⟩, ⟨bk⟩, ⟨bw⟩⟩
           ·rw [if_neg c104] at H
            have c104b0 : decide ((l0_2.length : Int) ≤ (wrap64 (x6_1 + 1))) = false := decide_eq_false c104
            clear c104
            (first | rw [c104b0] | (simp only [i64_w, i32_w]; rw [c104b0]) | skip)
            obtain ⟨ji105, hji105⟩ : ∃ j_ : Int, (wrap64 (x6_1 + 1)) = j_ := ⟨_, rfl⟩
            replace H : (if 0 ≤ (ji105) then (if (ji105) < (l0_2.length : Int) then (if ((rd_T35 l0_2 (ji105)).f0) = 18 then (bluebellref06_order.j2 kj9 x3_1 ji99 x5_9 x6_1 (decide ((ji105) ≥ (l0_2.length : Int))) false a0_0 l0_1 l0_2 l0_3 a0_4 a0_5 ((rd_T35 l0_2 x6_1).f0) ((rd_T35 l0_2 x6_1).f1) ((rd_T35 l0_2 x6_1).f2)) else (if ((rd_T35 l0_2 (ji105)).f0) = 28 then (bluebellref06_order.j2 kj9 x3_1 ji99 x5_9 x6_1 (decide ((ji105) ≥ (l0_2.length : Int))) false a0_0 l0_1 l0_2 l0_3 a0_4 a0_5 ((rd_T35 l0_2 x6_1).f0) ((rd_T35 l0_2 x6_1).f1) ((rd_T35 l0_2 x6_1).f2)) else (bluebellref06_order.j2 kj9 x3_1 ji99 x5_9 x6_1 (decide ((ji105) ≥ (l0_2.length : Int))) (((rd_T35 l0_2 (ji105)).f0) != 19) a0_0 l0_1 l0_2 l0_3 a0_4 a0_5 ((rd_T35 l0_2 x6_1).f0) ((rd_T35 l0_2 x6_1).f1) ((rd_T35 l0_2 x6_1).f2)))) else (none)) else (none)) = some r := by first | (rw [hji105] at H; exact H) | (simp only [hji105] at H ⊢; exact H)
            (try rw [hji105] at c104b0)
            have hji105w : (IntKind.i64.wrap (x6_1 + 1)) = ji105 := (i64_w _).trans hji105
            by_cases c106 : 0 ≤ (ji105)
            rotate_left
            ·rw [if_neg c106] at H
             exact absurd H (by simp)
            rw [if_pos c106] at H
            have c106b0 : decide (0 ≤ (ji105)) = true := decide_eq_true c106
            clear c106
            by_cases c107 : (ji105) < (l0_2.length : Int)
            rotate_left
            ·rw [if_neg c107] at H
             exact absurd H (by simp)
            rw [if_pos c107] at H
            have c107b0 : decide ((ji105) < (l0_2.length : Int)) = true := decide_eq_true c107
            clear c107
            by_cases c108 : ((rd_T35 l0_2 (ji105)).f0) = 18
            ·rw [if_pos c108] at H
             have c108b0 : (((rd_T35 l0_2 (ji105)).f0) == 18) = true := beq_iff_eq.mpr c108
             have c108b1 : (((rd_T35 l0_2 (ji105)).f0) != 18) = false := bne_eq_false_iff_eq.mpr c108
             clear c108
             have H' := Aside0.mk H
             clear H
             have hnb109 := NB393_395.out
             have hnc109 := NB395_393.out
             obtain ⟨z110_0, z110_1, z110_2, z110_3, z110_4, z110_5, y110_0, y110_1, y110_2, y110_3, y110_4, y110_5⟩ := cells6 BK393.out
             have p400 : 0 ≤ ((ji105) : Int) := ofd
             have q400 : (ji105) < (l0_2.length : Int) := ofd
             obtain ⟨ad400, e400, hx400_0, hx400_1, hx400_2⟩ := at_T35 HR0_2.out (ji105) p400 q400
             obtain rfl : ad394 = ad400 := (by injection e400)
             replace hx400_0 := hxE HB.out hx400_0
             replace hx400_1 := hxE HB.out hx400_1
             replace hx400_2 := hxE HB.out hx400_2
             replace p400 := eq_true p400
             replace q400 := eq_true q400
             go_wp2
             (first | go_meet | (refine Met.intro ?_; go_step; (repeat apply Exists.intro); refine ⟨?rel, ?fr_⟩; (case fr_ => first | (simp only [c108b1, c108b0, c107b0, c106b0, c104b0]; done) | (simp only [c108b1, c108b0, c107b0, c106b0, c104b0]; rfl) | ((try simp only [c108b1, c108b0, c107b0, c106b0, c104b0]); (try simp only [hji105]); (try simp only [c108b1, c108b0, c107b0, c106b0, c104b0]); first | done | rfl))))
             case rel => exact ⟨_, (false), wrE, (by first | exact H' | (simp only [hji105]; exact H')), ⟨by have := HK1.out; have := HJ9.out; first | omega | exact Nat.le_refl _⟩, ⟨bk⟩, ⟨bk⟩, ⟨bw⟩⟩
            ·rw [if_neg c108] at H
             have c108b0 : (((rd_T35 l0_2 (ji105)).f0) == 18) = false := beq_eq_false_iff_ne.mpr c108
             have c108b1 : (((rd_T35 l0_2 (ji105)).f0) != 18) = true := bne_iff_ne.mpr c108
             by_cases c111 : ((rd_T35 l0_2 (ji105)).f0) = 28
             ·rw [if_pos c111] at H
              have c111b0 : (((rd_T35 l0_2 (ji105)).f0) == 28) = true := beq_iff_eq.mpr c111
              have c111b1 : (((rd_T35 l0_2 (ji105)).f0) != 28) = false := bne_eq_false_iff_eq.mpr c111
              clear c111
              have H' := Aside0.mk H
              clear H
              have hnb112 := NB393_395.out
              have hnc112 := NB395_393.out
              obtain ⟨z113_0, z113_1, z113_2, z113_3, z113_4, z113_5, y113_0, y113_1, y113_2, y113_3, y113_4, y113_5⟩ := cells6 BK393.out
              have p400 : 0 ≤ ((ji105) : Int) := ofd
              have q400 : (ji105) < (l0_2.length : Int) := ofd
              obtain ⟨ad400, e400, hx400_0, hx400_1, hx400_2⟩ := at_T35 HR0_2.out (ji105) p400 q400
              obtain rfl : ad394 = ad400 := (by injection e400)
              replace hx400_0 := hxE HB.out hx400_0
              replace hx400_1 := hxE HB.out hx400_1
              replace hx400_2 := hxE HB.out hx400_2
              replace p400 := eq_true p400
              replace q400 := eq_true q400
              have p401 : 0 ≤ ((ji105) : Int) := ofd
              have q401 : (ji105) < (l0_2.length : Int) := ofd
              obtain ⟨ad401, e401, hx401_0, hx401_1, hx401_2⟩ := at_T35 HR0_2.out (ji105) p401 q401
              obtain rfl : ad394 = ad401 := (by injection e401)
              replace hx401_0 := hxE HB.out hx401_0
              replace hx401_1 := hxE HB.out hx401_1
              replace hx401_2 := hxE HB.out hx401_2
              replace p401 := eq_true p401
              replace q401 := eq_true q401
              go_wp2
              (first | go_meet | (refine Met.intro ?_; go_step; (repeat apply Exists.intro); refine ⟨?rel, ?fr_⟩; (case fr_ => first | (simp only [c111b1, c111b0, c108b1, c108b0, c107b0, c106b0, c104b0]; done) | (simp only [c111b1, c111b0, c108b1, c108b0, c107b0, c106b0, c104b0]; rfl) | ((try simp only [c111b1, c111b0, c108b1, c108b0, c107b0, c106b0, c104b0]); (try simp only [hji105]); (try simp only [c111b1, c111b0, c108b1, c108b0, c107b0, c106b0, c104b0]); first | done | rfl))))
              case rel => exact ⟨_, (false), wrE, (by first | exact H' | (simp only [hji105]; exact H')), ⟨by have := HK1.out; have := HJ9.out; first | omega | exact Nat.le_refl _⟩, ⟨bk⟩, ⟨bk⟩, ⟨bw⟩⟩
             ·rw [if_neg c111] at H
              have c111b0 : (((rd_T35 l0_2 (ji105)).f0) == 28) = false := beq_eq_false_iff_ne.mpr c111
              have c111b1 : (((rd_T35 l0_2 (ji105)).f0) != 28) = true := bne_iff_ne.mpr c111
              have H' := Aside0.mk H
              clear H
              have hnb114 := NB393_395.out
              have hnc114 := NB395_393.out
              obtain ⟨z115_0, z115_1, z115_2, z115_3, z115_4, z115_5, y115_0, y115_1, y115_2, y115_3, y115_4, y115_5⟩ := cells6 BK393.out
              have p400 : 0 ≤ ((ji105) : Int) := ofd
              have q400 : (ji105) < (l0_2.length : Int) := ofd
              obtain ⟨ad400, e400, hx400_0, hx400_1, hx400_2⟩ := at_T35 HR0_2.out (ji105) p400 q400
              obtain rfl : ad394 = ad400 := (by injection e400)
              replace hx400_0 := hxE HB.out hx400_0
              replace hx400_1 := hxE HB.out hx400_1
              replace hx400_2 := hxE HB.out hx400_2
              replace p400 := eq_true p400
              replace q400 := eq_true q400
              have p401 : 0 ≤ ((ji105) : Int) := ofd
              have q401 : (ji105) < (l0_2.length : Int) := ofd
              obtain ⟨ad401, e401, hx401_0, hx401_1, hx401_2⟩ := at_T35 HR0_2.out (ji105) p401 q401
              obtain rfl : ad394 = ad401 := (by injection e401)
              replace hx401_0 := hxE HB.out hx401_0
              replace hx401_1 := hxE HB.out hx401_1
              replace hx401_2 := hxE HB.out hx401_2
              replace p401 := eq_true p401
              replace q401 := eq_true q401
              have p402 : 0 ≤ ((ji105) : Int) := ofd
              have q402 : (ji105) < (l0_2.length : Int) := ofd
              obtain ⟨ad402, e402, hx402_0, hx402_1, hx402_2⟩ := at_T35 HR0_2.out (ji105) p402 q402
              obtain rfl : ad394 = ad402 := (by injection e402)
              replace hx402_0 := hxE HB.out hx402_0
              replace hx402_1 := hxE HB.out hx402_1
              replace hx402_2 := hxE HB.out hx402_2
              replace p402 := eq_true p402
              replace q402 := eq_true q402
              go_wp2
              (first | go_meet | (refine Met.intro ?_; go_step; (repeat apply Exists.intro); refine ⟨?rel, ?fr_⟩; (case fr_ => first | (simp only [c111b1, c111b0, c108b1, c108b0, c107b0, c106b0, c104b0]; done) | (simp only [c111b1, c111b0, c108b1, c108b0, c107b0, c106b0, c104b0]; rfl) | ((try simp only [c111b1, c111b0, c108b1, c108b0, c107b0, c106b0, c104b0]); (try simp only [hji105]); (try simp only [c111b1, c111b0, c108b1, c108b0, c107b0, c106b0, c104b0]); first | done | rfl))))
              case rel => exact ⟨_, ((((rd_T35 l0_2 (ji105)).f0) != 19)), (by first | rfl | (simp; done) | (simp only [← hji105] <;> (first | rfl | simp)) | (simp [*]; done)), (by first | exact H' | (simp only [hji105]; exact H')), ⟨by have := HK1.out; have := HJ9.out; first | omega | exact Nat.le_refl _⟩, ⟨bk⟩, ⟨bk⟩, ⟨bw⟩⟩
          case rest =>
           clear HC100
           clear c16 c16b0 c16b1 c59 c59b0 c59b1 c98b0 c98b1 z102_0 z102_1 z102_2 z102_3 z102_4 z102_5 z103_0 z103_1 z103_2 y102_0 y102_1 y102_2 y102_3 y102_4 y102_5 y103_0 y103_1 y103_2
           obtain ⟨kq, x87_99, rfl, HA, HJ99, BK393, BK395, HB⟩ := hcut
           cases kq with
           | zero => exact absurd HA.out (by simp [bluebellref06_order.j2])
           | succ kj99 =>
            have H := HA.out
            clear HA
            simp only [bluebellref06_order.j2] at H
            by_cases c116 : x87_99 = true
            ·subst c116
             have H1 : (some false) = some r := by rw [if_pos rfl] at H; exact H
             clear H
             have H := H1
             clear H1
             obtain rfl := Option.some.inj H
             go_wp2
             go_ret
             exact ⟨by first | rfl | (simp [errW_none, errW_some] <;> rfl) | (simp only [← hji99]; first | rfl | (simp [errW_none, errW_some] <;> rfl)) | (simp [*, errW_none, errW_some] <;> rfl), bw⟩
            ·replace c116 := Bool.eq_false_iff.mpr c116
             subst c116
             have H1 : ((bluebellref06_GoesOn.f ((rd_T35 l0_2 x6_1).f0) ((rd_T35 l0_2 x6_1).f1) ((rd_T35 l0_2 x6_1).f2)).bind fun t403 => (if t403 = true then (if (decide ((wrap64 (x6_1 + 1)) ≥ (l0_2.length : Int))) = true then (some false) else (if 0 ≤ (wrap64 (x6_1 + 1)) then (if (wrap64 (x6_1 + 1)) < (l0_2.length : Int) then (if ((rd_T35 l0_2 (wrap64 (x6_1 + 1))).f0) = 24 then (some false) else (if x6_1 = 0 then (if ((rd_T35 l0_2 x6_1).f0) = 24 then (bluebellref06_order.l0 kj99 x3_1 ji99 x5_9 (wrap64 (x6_1 + 1)) a0_0 l0_1 l0_2 l0_3 a0_4 a0_5) else (some false)) else (bluebellref06_order.l0 kj99 x3_1 ji99 x5_9 (wrap64 (x6_1 + 1)) a0_0 l0_1 l0_2 l0_3 a0_4 a0_5))) else (none)) else (none))) else (if x6_1 = 0 then (if ((rd_T35 l0_2 x6_1).f0) = 24 then (bluebellref06_order.l0 kj99 x3_1 ji99 x5_9 (wrap64 (x6_1 + 1)) a0_0 l0_1 l0_2 l0_3 a0_4 a0_5) else (some false)) else (bluebellref06_order.l0 kj99 x3_1 ji99 x5_9 (wrap64 (x6_1 + 1)) a0_0 l0_1 l0_2 l0_3 a0_4 a0_5)))) = some r := by rw [if_neg (show ¬ (false = true) by decide)] at H; exact H
             clear H
             have H := H1
             clear H1
             replace H := Option.bind_eq_some_iff.mp H
             obtain ⟨t403, A1170, H⟩ := H
             replace H : (if t403 = true then (if (decide ((wrap64 (x6_1 + 1)) ≥ (l0_2.length : Int))) = true then (some false) else (if 0 ≤ (wrap64 (x6_1 + 1)) then (if (wrap64 (x6_1 + 1)) < (l0_2.length : Int) then (if ((rd_T35 l0_2 (wrap64 (x6_1 + 1))).f0) = 24 then (some false) else (if x6_1 = 0 then (if ((rd_T35 l0_2 x6_1).f0) = 24 then (bluebellref06_order.l0 kj99 x3_1 ji99 x5_9 (wrap64 (x6_1 + 1)) a0_0 l0_1 l0_2 l0_3 a0_4 a0_5) else (some false)) else (bluebellref06_order.l0 kj99 x3_1 ji99 x5_9 (wrap64 (x6_1 + 1)) a0_0 l0_1 l0_2 l0_3 a0_4 a0_5))) else (none)) else (none))) else (if x6_1 = 0 then (if ((rd_T35 l0_2 x6_1).f0) = 24 then (bluebellref06_order.l0 kj99 x3_1 ji99 x5_9 (wrap64 (x6_1 + 1)) a0_0 l0_1 l0_2 l0_3 a0_4 a0_5) else (some false)) else (bluebellref06_order.l0 kj99 x3_1 ji99 x5_9 (wrap64 (x6_1 + 1)) a0_0 l0_1 l0_2 l0_3 a0_4 a0_5))) = some r := H
             have A117 := Aside0.mk A1170
             clear A1170
             by_cases c118 : t403 = true
             ·subst c118
              have H1 : (if (decide ((wrap64 (x6_1 + 1)) ≥ (l0_2.length : Int))) = true then (some false) else (if 0 ≤ (wrap64 (x6_1 + 1)) then (if (wrap64 (x6_1 + 1)) < (l0_2.length : Int) then (if ((rd_T35 l0_2 (wrap64 (x6_1 + 1))).f0) = 24 then (some false) else (if x6_1 = 0 then (if ((rd_T35 l0_2 x6_1).f0) = 24 then (bluebellref06_order.l0 kj99 x3_1 ji99 x5_9 (wrap64 (x6_1 + 1)) a0_0 l0_1 l0_2 l0_3 a0_4 a0_5) else (some false)) else (bluebellref06_order.l0 kj99 x3_1 ji99 x5_9 (wrap64 (x6_1 + 1)) a0_0 l0_1 l0_2 l0_3 a0_4 a0_5))) else (none)) else (none))) = some r := by rw [if_pos rfl] at H; exact H
              clear H
              have H := H1
              clear H1
              by_cases c119 : (decide ((wrap64 (x6_1 + 1)) ≥ (l0_2.length : Int))) = true
              ·rw [if_pos c119] at H
               have c119b0 : (decide ((wrap64 (x6_1 + 1)) ≥ (l0_2.length : Int))) = true := c119
               clear c119
               obtain rfl := Option.some.inj H
               have hnb120 := NB395_393.out
               have hnc120 := NB393_395.out
               obtain ⟨z121_0, z121_1, z121_2, y121_0, y121_1, y121_2⟩ := cells3 BK395.out
               go_wp2_with (first | ((with_reducible refine gate_callee (f := 72) rfl ?_); refine goesL_ (some 89) rfl rfl Try.func72 (by kernel_rfl) rfl #[.agg #[.int .i64 ((rd_T35 l0_2 x6_1).f0), .int .i64 ((rd_T35 l0_2 x6_1).f1), .int .i64 ((rd_T35 l0_2 x6_1).f2)]] rfl mpE ?_; (with_reducible refine (bluebellref06_GoesOn.calls ((rd_T35 l0_2 x6_1).f0) ((rd_T35 l0_2 x6_1).f1) ((rd_T35 l0_2 x6_1).f2) true _ A117.out).mono ?_); rintro e w122 ⟨rfl, hb⟩; refine ⟨_, rfl, ?_⟩; replace BK393 := Aside0.mk (bkb (g := gb393) hb); replace BK395 := Aside0.mk (bkb (g := gb395) hb); replace HB := Aside0.mk (bstep hb); (try clear hb)))
               go_ret
               exact ⟨by first | rfl | (simp [errW_none, errW_some] <;> rfl) | (simp only [← hji99]; first | rfl | (simp [errW_none, errW_some] <;> rfl)) | (simp [*, errW_none, errW_some] <;> rfl), bw⟩
              ·rw [if_neg c119] at H
               have c119b0 : (decide ((wrap64 (x6_1 + 1)) ≥ (l0_2.length : Int))) = false := by simpa using c119
               clear c119
               obtain ⟨ji123, hji123⟩ : ∃ j_ : Int, (wrap64 (x6_1 + 1)) = j_ := ⟨_, rfl⟩
               replace H : (if 0 ≤ (ji123) then (if (ji123) < (l0_2.length : Int) then (if ((rd_T35 l0_2 (ji123)).f0) = 24 then (some false) else (if x6_1 = 0 then (if ((rd_T35 l0_2 x6_1).f0) = 24 then (bluebellref06_order.l0 kj99 x3_1 ji99 x5_9 ji123 a0_0 l0_1 l0_2 l0_3 a0_4 a0_5) else (some false)) else (bluebellref06_order.l0 kj99 x3_1 ji99 x5_9 ji123 a0_0 l0_1 l0_2 l0_3 a0_4 a0_5))) else (none)) else (none)) = some r := by first | (rw [hji123] at H; exact H) | (simp only [hji123] at H ⊢; exact H)
               (try rw [hji123] at c119b0)
               (try rw [hji123] at A117)
               have hji123w : (IntKind.i64.wrap (x6_1 + 1)) = ji123 := (i64_w _).trans hji123
               by_cases c124 : 0 ≤ (ji123)
               rotate_left
               ·rw [if_neg c124] at H
                exact absurd H (by simp)
               rw [if_pos c124] at H
               have c124b0 : decide (0 ≤ (ji123)) = true := decide_eq_true c124
               clear c124
               by_cases c125 : (ji123) < (l0_2.length : Int)
               rotate_left
               ·rw [if_neg c125] at H
                exact absurd H (by simp)
               rw [if_pos c125] at H
               have c125b0 : decide ((ji123) < (l0_2.length : Int)) = true := decide_eq_true c125
               clear c125
               by_cases c126 : ((rd_T35 l0_2 (ji123)).f0) = 24
               ·rw [if_pos c126] at H
                have c126b0 : (((rd_T35 l0_2 (ji123)).f0) == 24) = true := beq_iff_eq.mpr c126
                have c126b1 : (((rd_T35 l0_2 (ji123)).f0) != 24) = false := bne_eq_false_iff_eq.mpr c126
                clear c126
                obtain rfl := Option.some.inj H
                have hnb127 := NB395_393.out
                have hnc127 := NB393_395.out
                obtain ⟨z128_0, z128_1, z128_2, y128_0, y128_1, y128_2⟩ := cells3 BK395.out
                go_wp2_with (first | ((with_reducible refine gate_callee (f := 72) rfl ?_); refine goesL_ (some 89) rfl rfl Try.func72 (by kernel_rfl) rfl #[.agg #[.int .i64 ((rd_T35 l0_2 x6_1).f0), .int .i64 ((rd_T35 l0_2 x6_1).f1), .int .i64 ((rd_T35 l0_2 x6_1).f2)]] rfl mpE ?_; (with_reducible refine (bluebellref06_GoesOn.calls ((rd_T35 l0_2 x6_1).f0) ((rd_T35 l0_2 x6_1).f1) ((rd_T35 l0_2 x6_1).f2) true _ A117.out).mono ?_); rintro e w129 ⟨rfl, hb⟩; refine ⟨_, rfl, ?_⟩; replace BK393 := Aside0.mk (bkb (g := gb393) hb); replace BK395 := Aside0.mk (bkb (g := gb395) hb); replace HB := Aside0.mk (bstep hb); (try clear hb); obtain ⟨z130_0, z130_1, z130_2, z130_3, z130_4, z130_5, y130_0, y130_1, y130_2, y130_3, y130_4, y130_5⟩ := cells6 BK393.out; have p404 : 0 ≤ ((ji123) : Int) := ofd; have q404 : (ji123) < (l0_2.length : Int) := ofd; obtain ⟨ad404, e404, hx404_0, hx404_1, hx404_2⟩ := at_T35 HR0_2.out (ji123) p404 q404; obtain rfl : ad394 = ad404 := (by injection e404); replace hx404_0 := hxE HB.out hx404_0; replace hx404_1 := hxE HB.out hx404_1; replace hx404_2 := hxE HB.out hx404_2; replace p404 := eq_true p404; replace q404 := eq_true q404))
                go_ret
                exact ⟨by first | rfl | (simp [errW_none, errW_some] <;> rfl) | (simp only [← hji99, ← hji123]; first | rfl | (simp [errW_none, errW_some] <;> rfl)) | (simp [*, errW_none, errW_some] <;> rfl), bw⟩
               ·rw [if_neg c126] at H
                have c126b0 : (((rd_T35 l0_2 (ji123)).f0) == 24) = false := beq_eq_false_iff_ne.mpr c126
                have c126b1 : (((rd_T35 l0_2 (ji123)).f0) != 24) = true := bne_iff_ne.mpr c126
                by_cases c131 : x6_1 = 0
                ·rw [if_pos c131] at H
                 have c131b0 : (x6_1 == 0) = true := beq_iff_eq.mpr c131
                 have c131b1 : (x6_1 != 0) = false := bne_eq_false_iff_eq.mpr c131
                 clear c131
                 by_cases c132 : ((rd_T35 l0_2 x6_1).f0) = 24
                 ·rw [if_pos c132] at H
                  have c132b0 : (((rd_T35 l0_2 x6_1).f0) == 24) = true := beq_iff_eq.mpr c132
                  have c132b1 : (((rd_T35 l0_2 x6_1).f0) != 24) = false := bne_eq_false_iff_eq.mpr c132
                  clear c132
                  have H' := Aside0.mk H
                  clear H
                  have hnb133 := NB395_393.out
                  have hnc133 := NB393_395.out
                  obtain ⟨z134_0, z134_1, z134_2, y134_0, y134_1, y134_2⟩ := cells3 BK395.out
                  go_wp2_with (first | ((with_reducible refine gate_callee (f := 72) rfl ?_); refine goesL_ (some 89) rfl rfl Try.func72 (by kernel_rfl) rfl #[.agg #[.int .i64 ((rd_T35 l0_2 x6_1).f0), .int .i64 ((rd_T35 l0_2 x6_1).f1), .int .i64 ((rd_T35 l0_2 x6_1).f2)]] rfl mpE ?_; (with_reducible refine (bluebellref06_GoesOn.calls ((rd_T35 l0_2 x6_1).f0) ((rd_T35 l0_2 x6_1).f1) ((rd_T35 l0_2 x6_1).f2) true _ A117.out).mono ?_); rintro e w135 ⟨rfl, hb⟩; refine ⟨_, rfl, ?_⟩; replace BK393 := Aside0.mk (bkb (g := gb393) hb); replace BK395 := Aside0.mk (bkb (g := gb395) hb); replace HB := Aside0.mk (bstep hb); (try clear hb); obtain ⟨z136_0, z136_1, z136_2, z136_3, z136_4, z136_5, y136_0, y136_1, y136_2, y136_3, y136_4, y136_5⟩ := cells6 BK393.out; have p404 : 0 ≤ ((ji123) : Int) := ofd; have q404 : (ji123) < (l0_2.length : Int) := ofd; obtain ⟨ad404, e404, hx404_0, hx404_1, hx404_2⟩ := at_T35 HR0_2.out (ji123) p404 q404; obtain rfl : ad394 = ad404 := (by injection e404); replace hx404_0 := hxE HB.out hx404_0; replace hx404_1 := hxE HB.out hx404_1; replace hx404_2 := hxE HB.out hx404_2; replace p404 := eq_true p404; replace q404 := eq_true q404; obtain ⟨z137_0, z137_1, z137_2, y137_0, y137_1, y137_2⟩ := cells3 BK395.out))
                  go_roundg kj99
                  case measure => have := HK1.out; have := HJ9.out; have := HJ99.out; omega
                  case rel => exact ⟨(x3_1), (ji99), (x5_9), (ji123), wrE, (by first | rfl | (simp; done) | (simp only [← hji99] <;> (first | rfl | simp)) | (simp [*]; done)), wrE, (by first | rfl | (simp; done) | (simp only [← hji123] <;> (first | rfl | simp)) | (simp [*]; done)), H', ⟨by have := HK1.out; have := HJ9.out; have := HJ99.out; omega⟩, ⟨bk⟩, ⟨bw⟩⟩
                 ·rw [if_neg c132] at H
                  have c132b0 : (((rd_T35 l0_2 x6_1).f0) == 24) = false := beq_eq_false_iff_ne.mpr c132
                  have c132b1 : (((rd_T35 l0_2 x6_1).f0) != 24) = true := bne_iff_ne.mpr c132
                  obtain rfl := Option.some.inj H
                  have hnb138 := NB395_393.out
                  have hnc138 := NB393_395.out
                  obtain ⟨z139_0, z139_1, z139_2, y139_0, y139_1, y139_2⟩ := cells3 BK395.out
                  go_wp2_with (first | ((with_reducible refine gate_callee (f := 72) rfl ?_); refine goesL_ (some 89) rfl rfl Try.func72 (by kernel_rfl) rfl #[.agg #[.int .i64 ((rd_T35 l0_2 x6_1).f0), .int .i64 ((rd_T35 l0_2 x6_1).f1), .int .i64 ((rd_T35 l0_2 x6_1).f2)]] rfl mpE ?_; (with_reducible refine (bluebellref06_GoesOn.calls ((rd_T35 l0_2 x6_1).f0) ((rd_T35 l0_2 x6_1).f1) ((rd_T35 l0_2 x6_1).f2) true _ A117.out).mono ?_); rintro e w140 ⟨rfl, hb⟩; refine ⟨_, rfl, ?_⟩; replace BK393 := Aside0.mk (bkb (g := gb393) hb); replace BK395 := Aside0.mk (bkb (g := gb395) hb); replace HB := Aside0.mk (bstep hb); (try clear hb); obtain ⟨z141_0, z141_1, z141_2, z141_3, z141_4, z141_5, y141_0, y141_1, y141_2, y141_3, y141_4, y141_5⟩ := cells6 BK393.out; have p404 : 0 ≤ ((ji123) : Int) := ofd; have q404 : (ji123) < (l0_2.length : Int) := ofd; obtain ⟨ad404, e404, hx404_0, hx404_1, hx404_2⟩ := at_T35 HR0_2.out (ji123) p404 q404; obtain rfl : ad394 = ad404 := (by injection e404); replace hx404_0 := hxE HB.out hx404_0; replace hx404_1 := hxE HB.out hx404_1; replace hx404_2 := hxE HB.out hx404_2; replace p404 := eq_true p404; replace q404 := eq_true q404; obtain ⟨z142_0, z142_1, z142_2, y142_0, y142_1, y142_2⟩ := cells3 BK395.out))
                  go_ret
                  exact ⟨by first | rfl | (simp [errW_none, errW_some] <;> rfl) | (simp only [← hji99, ← hji123]; first | rfl | (simp [errW_none, errW_some] <;> rfl)) | (simp [*, errW_none, errW_some] <;> rfl), bw⟩
                ·rw [if_neg c131] at H
                 have c131b0 : (x6_1 == 0) = false := beq_eq_false_iff_ne.mpr c131
                 have c131b1 : (x6_1 != 0) = true := bne_iff_ne.mpr c131
                 have H' := Aside0.mk H
                 clear H
                 have hnb143 := NB395_393.out
                 have hnc143 := NB393_395.out
                 obtain ⟨z144_0, z144_1, z144_2, y144_0, y144_1, y144_2⟩ := cells3 BK395.out
                 go_wp2_with (first | ((with_reducible refine gate_callee (f := 72) rfl ?_); refine goesL_ (some 89) rfl rfl Try.func72 (by kernel_rfl) rfl #[.agg #[.int .i64 ((rd_T35 l0_2 x6_1).f0), .int .i64 ((rd_T35 l0_2 x6_1).f1), .int .i64 ((rd_T35 l0_2 x6_1).f2)]] rfl mpE ?_; (with_reducible refine (bluebellref06_GoesOn.calls ((rd_T35 l0_2 x6_1).f0) ((rd_T35 l0_2 x6_1).f1) ((rd_T35 l0_2 x6_1).f2) true _ A117.out).mono ?_); rintro e w145 ⟨rfl, hb⟩; refine ⟨_, rfl, ?_⟩; replace BK393 := Aside0.mk (bkb (g := gb393) hb); replace BK395 := Aside0.mk (bkb (g := gb395) hb); replace HB := Aside0.mk (bstep hb); (try clear hb); obtain ⟨z146_0, z146_1, z146_2, z146_3, z146_4, z146_5, y146_0, y146_1, y146_2, y146_3, y146_4, y146_5⟩ := cells6 BK393.out; have p404 : 0 ≤ ((ji123) : Int) := ofd; have q404 : (ji123) < (l0_2.length : Int) := ofd; obtain ⟨ad404, e404, hx404_0, hx404_1, hx404_2⟩ := at_T35 HR0_2.out (ji123) p404 q404; obtain rfl : ad394 = ad404 := (by injection e404); replace hx404_0 := hxE HB.out hx404_0; replace hx404_1 := hxE HB.out hx404_1; replace hx404_2 := hxE HB.out hx404_2; replace p404 := eq_true p404; replace q404 := eq_true q404))
                 go_roundg kj99
                 case measure => have := HK1.out; have := HJ9.out; have := HJ99.out; omega
                 case rel => exact ⟨(x3_1), (ji99), (x5_9), (ji123), wrE, (by first | rfl | (simp; done) | (simp only [← hji99] <;> (first | rfl | simp)) | (simp [*]; done)), wrE, (by first | rfl | (simp; done) | (simp only [← hji123] <;> (first | rfl | simp)) | (simp [*]; done)), H', ⟨by have := HK1.out; have := HJ9.out; have := HJ99.out; omega⟩, ⟨bk⟩, ⟨bw⟩⟩
             ·replace c118 := Bool.eq_false_iff.mpr c118
              subst c118
              have H1 : (if x6_1 = 0 then (if ((rd_T35 l0_2 x6_1).f0) = 24 then (bluebellref06_order.l0 kj99 x3_1 ji99 x5_9 (wrap64 (x6_1 + 1)) a0_0 l0_1 l0_2 l0_3 a0_4 a0_5) else (some false)) else (bluebellref06_order.l0 kj99 x3_1 ji99 x5_9 (wrap64 (x6_1 + 1)) a0_0 l0_1 l0_2 l0_3 a0_4 a0_5)) = some r := by rw [if_neg (show ¬ (false = true) by decide)] at H; exact H
              clear H
              have H := H1
              clear H1
              by_cases c147 : x6_1 = 0
              ·rw [if_pos c147] at H
               have c147b0 : (x6_1 == 0) = true := beq_iff_eq.mpr c147
               have c147b1 : (x6_1 != 0) = false := bne_eq_false_iff_eq.mpr c147
               clear c147
               by_cases c148 : ((rd_T35 l0_2 x6_1).f0) = 24
               ·rw [if_pos c148] at H
                have c148b0 : (((rd_T35 l0_2 x6_1).f0) == 24) = true := beq_iff_eq.mpr c148
                have c148b1 : (((rd_T35 l0_2 x6_1).f0) != 24) = false := bne_eq_false_iff_eq.mpr c148
                clear c148
                have H' := Aside0.mk H
                clear H
                have hnb149 := NB395_393.out
                have hnc149 := NB393_395.out
                obtain ⟨z150_0, z150_1, z150_2, y150_0, y150_1, y150_2⟩ := cells3 BK395.out
                go_wp2_with (first | ((with_reducible refine gate_callee (f := 72) rfl ?_); refine goesL_ (some 89) rfl rfl Try.func72 (by kernel_rfl) rfl #[.agg #[.int .i64 ((rd_T35 l0_2 x6_1).f0), .int .i64 ((rd_T35 l0_2 x6_1).f1), .int .i64 ((rd_T35 l0_2 x6_1).f2)]] rfl mpE ?_; (with_reducible refine (bluebellref06_GoesOn.calls ((rd_T35 l0_2 x6_1).f0) ((rd_T35 l0_2 x6_1).f1) ((rd_T35 l0_2 x6_1).f2) false _ A117.out).mono ?_); rintro e w151 ⟨rfl, hb⟩; refine ⟨_, rfl, ?_⟩; replace BK393 := Aside0.mk (bkb (g := gb393) hb); replace BK395 := Aside0.mk (bkb (g := gb395) hb); replace HB := Aside0.mk (bstep hb); (try clear hb); obtain ⟨z152_0, z152_1, z152_2, y152_0, y152_1, y152_2⟩ := cells3 BK395.out))
                go_roundg kj99
                case measure => have := HK1.out; have := HJ9.out; have := HJ99.out; omega
                case rel => exact ⟨(x3_1), (ji99), (x5_9), (wrap64 (x6_1 + 1)), wrE, (by first | rfl | (simp; done) | (simp only [← hji99] <;> (first | rfl | simp)) | (simp [*]; done)), wrE, wrE, H', ⟨by have := HK1.out; have := HJ9.out; have := HJ99.out; omega⟩, ⟨bk⟩, ⟨bw⟩⟩
               ·rw [if_neg c148] at H
                have c148b0 : (((rd_T35 l0_2 x6_1).f0) == 24) = false := beq_eq_false_iff_ne.mpr c148
                have c148b1 : (((rd_T35 l0_2 x6_1).f0) != 24) = true := bne_iff_ne.mpr c148
                obtain rfl := Option.some.inj H
                have hnb153 := NB395_393.out
                have hnc153 := NB393_395.out
                obtain ⟨z154_0, z154_1, z154_2, y154_0, y154_1, y154_2⟩ := cells3 BK395.out
                go_wp2_with (first | ((with_reducible refine gate_callee (f := 72) rfl ?_); refine goesL_ (some 89) rfl rfl Try.func72 (by kernel_rfl) rfl #[.agg #[.int .i64 ((rd_T35 l0_2 x6_1).f0), .int .i64 ((rd_T35 l0_2 x6_1).f1), .int .i64 ((rd_T35 l0_2 x6_1).f2)]] rfl mpE ?_; (with_reducible refine (bluebellref06_GoesOn.calls ((rd_T35 l0_2 x6_1).f0) ((rd_T35 l0_2 x6_1).f1) ((rd_T35 l0_2 x6_1).f2) false _ A117.out).mono ?_); rintro e w155 ⟨rfl, hb⟩; refine ⟨_, rfl, ?_⟩; replace BK393 := Aside0.mk (bkb (g := gb393) hb); replace BK395 := Aside0.mk (bkb (g := gb395) hb); replace HB := Aside0.mk (bstep hb); (try clear hb); obtain ⟨z156_0, z156_1, z156_2, y156_0, y156_1, y156_2⟩ := cells3 BK395.out))
                go_ret
                exact ⟨by first | rfl | (simp [errW_none, errW_some] <;> rfl) | (simp only [← hji99]; first | rfl | (simp [errW_none, errW_some] <;> rfl)) | (simp [*, errW_none, errW_some] <;> rfl), bw⟩
              ·rw [if_neg c147] at H
               have c147b0 : (x6_1 == 0) = false := beq_eq_false_iff_ne.mpr c147
               have c147b1 : (x6_1 != 0) = true := bne_iff_ne.mpr c147
               have H' := Aside0.mk H
               clear H
               have hnb157 := NB395_393.out
               have hnc157 := NB393_395.out
               obtain ⟨z158_0, z158_1, z158_2, y158_0, y158_1, y158_2⟩ := cells3 BK395.out
               go_wp2_with (first | ((with_reducible refine gate_callee (f := 72) rfl ?_); refine goesL_ (some 89) rfl rfl Try.func72 (by kernel_rfl) rfl #[.agg #[.int .i64 ((rd_T35 l0_2 x6_1).f0), .int .i64 ((rd_T35 l0_2 x6_1).f1), .int .i64 ((rd_T35 l0_2 x6_1).f2)]] rfl mpE ?_; (with_reducible refine (bluebellref06_GoesOn.calls ((rd_T35 l0_2 x6_1).f0) ((rd_T35 l0_2 x6_1).f1) ((rd_T35 l0_2 x6_1).f2) false _ A117.out).mono ?_); rintro e w159 ⟨rfl, hb⟩; refine ⟨_, rfl, ?_⟩; replace BK393 := Aside0.mk (bkb (g := gb393) hb); replace BK395 := Aside0.mk (bkb (g := gb395) hb); replace HB := Aside0.mk (bstep hb); (try clear hb)))
               go_roundg kj99
               case measure => have := HK1.out; have := HJ9.out; have := HJ99.out; omega
               case rel => exact ⟨(x3_1), (ji99), (x5_9), (wrap64 (x6_1 + 1)), wrE, (by first | rfl | (simp; done) | (simp only [← hji99] <;> (first | rfl | simp)) | (simp [*]; done)), wrE, wrE, H', ⟨by have := HK1.out; have := HJ9.out; have := HJ99.out; omega⟩, ⟨bk⟩, ⟨bw⟩⟩
         ·rw [if_neg c98] at H
          have c98b0 : (((rd_T35 l0_2 x6_1).f0) == 19) = false := beq_eq_false_iff_ne.mpr c98
          have c98b1 : (((rd_T35 l0_2 x6_1).f0) != 19) = true := bne_iff_ne.mpr c98
          replace H := Option.bind_eq_some_iff.mp H
          obtain ⟨t405, A1600, H⟩ := H
          replace H : (if t405 = true then (if (wrap64 (x6_1 + 1)) ≥ (l0_2.length : Int) then (some false) else (if 0 ≤ (wrap64 (x6_1 + 1)) then (if (wrap64 (x6_1 + 1)) < (l0_2.length : Int) then (if ((rd_T35 l0_2 (wrap64 (x6_1 + 1))).f0) = 24 then (some false) else (if x6_1 = 0 then (some false) else (bluebellref06_order.l0 kj9 x3_1 x4_1 x5_9 (wrap64 (x6_1 + 1)) a0_0 l0_1 l0_2 l0_3 a0_4 a0_5))) else (none)) else (none))) else (if x6_1 = 0 then (some false) else (bluebellref06_order.l0 kj9 x3_1 x4_1 x5_9 (wrap64 (x6_1 + 1)) a0_0 l0_1 l0_2 l0_3 a0_4 a0_5))) = some r := H
          have A160 := Aside0.mk A1600
          clear A1600
          by_cases c161 : t405 = true
          ·subst c161
           have H1 : (if (wrap64 (x6_1 + 1)) ≥ (l0_2.length : Int) then (some false) else (if 0 ≤ (wrap64 (x6_1 + 1)) then (if (wrap64 (x6_1 + 1)) < (l0_2.length : Int) then (if ((rd_T35 l0_2 (wrap64 (x6_1 + 1))).f0) = 24 then (some false) else (if x6_1 = 0 then (some false) else (bluebellref06_order.l0 kj9 x3_1 x4_1 x5_9 (wrap64 (x6_1 + 1)) a0_0 l0_1 l0_2 l0_3 a0_4 a0_5))) else (none)) else (none))) = some r := by rw [if_pos rfl] at H; exact H
           clear H
           have H := H1
           clear H1
           by_cases c162 : (wrap64 (x6_1 + 1)) ≥ (l0_2.length : Int)
           ·rw [if_pos c162] at H
            have c162b0 : decide ((l0_2.length : Int) ≤ (wrap64 (x6_1 + 1))) = true := decide_eq_true c162
            clear c162
            obtain rfl := Option.some.inj H
            have hnb163 := NB393_395.out
            have hnc163 := NB395_393.out
            obtain ⟨z164_0, z164_1, z164_2, z164_3, z164_4, z164_5, y164_0, y164_1, y164_2, y164_3, y164_4, y164_5⟩ := cells6 BK393.out
            obtain ⟨z165_0, z165_1, z165_2, y165_0, y165_1, y165_2⟩ := cells3 BK395.out
            go_wp2_with (first | ((with_reducible refine gate_callee (f := 72) rfl ?_); refine goesL_ (some 89) rfl rfl Try.func72 (by kernel_rfl) rfl #[.agg #[.int .i64 ((rd_T35 l0_2 x6_1).f0), .int .i64 ((rd_T35 l0_2 x6_1).f1), .int .i64 ((rd_T35 l0_2 x6_1).f2)]] rfl mpE ?_; (with_reducible refine (bluebellref06_GoesOn.calls ((rd_T35 l0_2 x6_1).f0) ((rd_T35 l0_2 x6_1).f1) ((rd_T35 l0_2 x6_1).f2) true _ A160.out).mono ?_); rintro e w166 ⟨rfl, hb⟩; refine ⟨_, rfl, ?_⟩; replace BK393 := Aside0.mk (bkb (g := gb393) hb); replace BK395 := Aside0.mk (bkb (g := gb395) hb); replace HB := Aside0.mk (bstep hb); (try clear hb)))
            go_ret
            exact ⟨erE, bw⟩
           ·rw [if_neg c162] at H
            have c162b0 : decide ((l0_2.length : Int) ≤ (wrap64 (x6_1 + 1))) = false := decide_eq_false c162
            clear c162
            obtain ⟨ji167, hji167⟩ : ∃ j_ : Int, (wrap64 (x6_1 + 1)) = j_ := ⟨_, rfl⟩
            replace H : (if 0 ≤ (ji167) then (if (ji167) < (l0_2.length : Int) then (if ((rd_T35 l0_2 (ji167)).f0) = 24 then (some false) else (if x6_1 = 0 then (some false) else (bluebellref06_order.l0 kj9 x3_1 x4_1 x5_9 ji167 a0_0 l0_1 l0_2 l0_3 a0_4 a0_5))) else (none)) else (none)) = some r := by first | (rw [hji167] at H; exact H) | (simp only [hji167] at H ⊢; exact H)
            (try rw [hji167] at c162b0)
            (try rw [hji167] at A160)
            have hji167w : (IntKind.i64.wrap (x6_1 + 1)) = ji167 := (i64_w _).trans hji167
            by_cases c168 : 0 ≤ (ji167)
            rotate_left
            ·rw [if_neg c168] at H
             exact absurd H (by simp)
            rw [if_pos c168] at H
            have c168b0 : decide (0 ≤ (ji167)) = true := decide_eq_true c168
            clear c168
            by_cases c169 : (ji167) < (l0_2.length : Int)
            rotate_left
            ·rw [if_neg c169] at H
             exact absurd H (by simp)
            rw [if_pos c169] at H
            have c169b0 : decide ((ji167) < (l0_2.length : Int)) = true := decide_eq_true c169
            clear c169
            by_cases c170 : ((rd_T35 l0_2 (ji167)).f0) = 24
            ·rw [if_pos c170] at H
             have c170b0 : (((rd_T35 l0_2 (ji167)).f0) == 24) = true := beq_iff_eq.mpr c170
             have c170b1 : (((rd_T35 l0_2 (ji167)).f0) != 24) = false := bne_eq_false_iff_eq.mpr c170
             clear c170
             obtain rfl := Option.some.inj H
             have hnb171 := NB393_395.out
             have hnc171 := NB395_393.out
             obtain ⟨z172_0, z172_1, z172_2, z172_3, z172_4, z172_5, y172_0, y172_1, y172_2, y172_3, y172_4, y172_5⟩ := cells6 BK393.out
             obtain ⟨z173_0, z173_1, z173_2, y173_0, y173_1, y173_2⟩ := cells3 BK395.out
             go_wp2_with (first | ((with_reducible refine gate_callee (f := 72) rfl ?_); refine goesL_ (some 89) rfl rfl Try.func72 (by kernel_rfl) rfl #[.agg #[.int .i64 ((rd_T35 l0_2 x6_1).f0), .int .i64 ((rd_T35 l0_2 x6_1).f1), .int .i64 ((rd_T35 l0_2 x6_1).f2)]] rfl mpE ?_; (with_reducible refine (bluebellref06_GoesOn.calls ((rd_T35 l0_2 x6_1).f0) ((rd_T35 l0_2 x6_1).f1) ((rd_T35 l0_2 x6_1).f2) true _ A160.out).mono ?_); rintro e w174 ⟨rfl, hb⟩; refine ⟨_, rfl, ?_⟩; replace BK393 := Aside0.mk (bkb (g := gb393) hb); replace BK395 := Aside0.mk (bkb (g := gb395) hb); replace HB := Aside0.mk (bstep hb); (try clear hb); obtain ⟨z175_0, z175_1, z175_2, z175_3, z175_4, z175_5, y175_0, y175_1, y175_2, y175_3, y175_4, y175_5⟩ := cells6 BK393.out; have p406 : 0 ≤ ((ji167) : Int) := ofd; have q406 : (ji167) < (l0_2.length : Int) := ofd; obtain ⟨ad406, e406, hx406_0, hx406_1, hx406_2⟩ := at_T35 HR0_2.out (ji167) p406 q406; obtain rfl : ad394 = ad406 := (by injection e406); replace hx406_0 := hxE HB.out hx406_0; replace hx406_1 := hxE HB.out hx406_1; replace hx406_2 := hxE HB.out hx406_2; replace p406 := eq_true p406; replace q406 := eq_true q406))
             go_ret
             exact ⟨by first | rfl | (simp [errW_none, errW_some] <;> rfl) | (simp only [← hji167]; first | rfl | (simp [errW_none, errW_some] <;> rfl)) | (simp [*, errW_none, errW_some] <;> rfl), bw⟩
            ·rw [if_neg c170] at H
             have c170b0 : (((rd_T35 l0_2 (ji167)).f0) == 24) = false := beq_eq_false_iff_ne.mpr c170
             have c170b1 : (((rd_T35 l0_2 (ji167)).f0) != 24) = true := bne_iff_ne.mpr c170
             by_cases c176 : x6_1 = 0
             ·rw [if_pos c176] at H
              have c176b0 : (x6_1 == 0) = true := beq_iff_eq.mpr c176
              have c176b1 : (x6_1 != 0) = false := bne_eq_false_iff_eq.mpr c176
              clear c176
              obtain rfl := Option.some.inj H
              have hnb177 := NB393_395.out
              have hnc177 := NB395_393.out
              obtain ⟨z178_0, z178_1, z178_2, z178_3, z178_4, z178_5, y178_0, y178_1, y178_2, y178_3, y178_4, y178_5⟩ := cells6 BK393.out
              obtain ⟨z179_0, z179_1, z179_2, y179_0, y179_1, y179_2⟩ := cells3 BK395.out
              go_wp2_with (first | ((with_reducible refine gate_callee (f := 72) rfl ?_); refine goesL_ (some 89) rfl rfl Try.func72 (by kernel_rfl) rfl #[.agg #[.int .i64 ((rd_T35 l0_2 x6_1).f0), .int .i64 ((rd_T35 l0_2 x6_1).f1), .int .i64 ((rd_T35 l0_2 x6_1).f2)]] rfl mpE ?_; (with_reducible refine (bluebellref06_GoesOn.calls ((rd_T35 l0_2 x6_1).f0) ((rd_T35 l0_2 x6_1).f1) ((rd_T35 l0_2 x6_1).f2) true _ A160.out).mono ?_); rintro e w180 ⟨rfl, hb⟩; refine ⟨_, rfl, ?_⟩; replace BK393 := Aside0.mk (bkb (g := gb393) hb); replace BK395 := Aside0.mk (bkb (g := gb395) hb); replace HB := Aside0.mk (bstep hb); (try clear hb); obtain ⟨z181_0, z181_1, z181_2, z181_3, z181_4, z181_5, y181_0, y181_1, y181_2, y181_3, y181_4, y181_5⟩ := cells6 BK393.out; have p406 : 0 ≤ ((ji167) : Int) := ofd; have q406 : (ji167) < (l0_2.length : Int) := ofd; obtain ⟨ad406, e406, hx406_0, hx406_1, hx406_2⟩ := at_T35 HR0_2.out (ji167) p406 q406; obtain rfl : ad394 = ad406 := (by injection e406); replace hx406_0 := hxE HB.out hx406_0; replace hx406_1 := hxE HB.out hx406_1; replace hx406_2 := hxE HB.out hx406_2; replace p406 := eq_true p406; replace q406 := eq_true q406; obtain ⟨z182_0, z182_1, z182_2, y182_0, y182_1, y182_2⟩ := cells3 BK395.out))
              go_ret
              exact ⟨by first | rfl | (simp [errW_none, errW_some] <;> rfl) | (simp only [← hji167]; first | rfl | (simp [errW_none, errW_some] <;> rfl)) | (simp [*, errW_none, errW_some] <;> rfl), bw⟩
             ·rw [if_neg c176] at H
              have c176b0 : (x6_1 == 0) = false := beq_eq_false_iff_ne.mpr c176
              have c176b1 : (x6_1 != 0) = true := bne_iff_ne.mpr c176
              have H' := Aside0.mk H
              clear H
              have hnb183 := NB393_395.out
              have hnc183 := NB395_393.out
              obtain ⟨z184_0, z184_1, z184_2, z184_3, z184_4, z184_5, y184_0, y184_1, y184_2, y184_3, y184_4, y184_5⟩ := cells6 BK393.out
              obtain ⟨z185_0, z185_1, z185_2, y185_0, y185_1, y185_2⟩ := cells3 BK395.out
              go_wp2_with (first | ((with_reducible refine gate_callee (f := 72) rfl ?_); refine goesL_ (some 89) rfl rfl Try.func72 (by kernel_rfl) rfl #[.agg #[.int .i64 ((rd_T35 l0_2 x6_1).f0), .int .i64 ((rd_T35 l0_2 x6_1).f1), .int .i64 ((rd_T35 l0_2 x6_1).f2)]] rfl mpE ?_; (with_reducible refine (bluebellref06_GoesOn.calls ((rd_T35 l0_2 x6_1).f0) ((rd_T35 l0_2 x6_1).f1) ((rd_T35 l0_2 x6_1).f2) true _ A160.out).mono ?_); rintro e w186 ⟨rfl, hb⟩; refine ⟨_, rfl, ?_⟩; replace BK393 := Aside0.mk (bkb (g := gb393) hb); replace BK395 := Aside0.mk (bkb (g := gb395) hb); replace HB := Aside0.mk (bstep hb); (try clear hb); obtain ⟨z187_0, z187_1, z187_2, z187_3, z187_4, z187_5, y187_0, y187_1, y187_2, y187_3, y187_4, y187_5⟩ := cells6 BK393.out; have p406 : 0 ≤ ((ji167) : Int) := ofd; have q406 : (ji167) < (l0_2.length : Int) := ofd; obtain ⟨ad406, e406, hx406_0, hx406_1, hx406_2⟩ := at_T35 HR0_2.out (ji167) p406 q406; obtain rfl : ad394 = ad406 := (by injection e406); replace hx406_0 := hxE HB.out hx406_0; replace hx406_1 := hxE HB.out hx406_1; replace hx406_2 := hxE HB.out hx406_2; replace p406 := eq_true p406; replace q406 := eq_true q406))
              go_roundg kj9
              case measure => have := HK1.out; have := HJ9.out; omega
              case rel => exact ⟨(x3_1), (x4_1), (x5_9), (ji167), wrE, wrE, wrE, (by first | rfl | (simp; done) | (simp only [← hji167] <;> (first | rfl | simp)) | (simp [*]; done)), H', ⟨by have := HK1.out; have := HJ9.out; omega⟩, ⟨bk⟩, ⟨bw⟩⟩
          ·replace c161 := Bool.eq_false_iff.mpr c161
           subst c161
           have H1 : (if x6_1 = 0 then (some false) else (bluebellref06_order.l0 kj9 x3_1 x4_1 x5_9 (wrap64 (x6_1 + 1)) a0_0 l0_1 l0_2 l0_3 a0_4 a0_5)) = some r := by rw [if_neg (show ¬ (false = true) by decide)] at H; exact H
           clear H
           have H := H1
           clear H1
           by_cases c188 : x6_1 = 0
           ·rw [if_pos c188] at H
            have c188b0 : (x6_1 == 0) = true := beq_iff_eq.mpr c188
            have c188b1 : (x6_1 != 0) = false := bne_eq_false_iff_eq.mpr c188
            clear c188
            obtain rfl := Option.some.inj H
            have hnb189 := NB393_395.out
            have hnc189 := NB395_393.out
            obtain ⟨z190_0, z190_1, z190_2, z190_3, z190_4, z190_5, y190_0, y190_1, y190_2, y190_3, y190_4, y190_5⟩ := cells6 BK393.out
            obtain ⟨z191_0, z191_1, z191_2, y191_0, y191_1, y191_2⟩ := cells3 BK395.out
            go_wp2_with (first | ((with_reducible refine gate_callee (f := 72) rfl ?_); refine goesL_ (some 89) rfl rfl Try.func72 (by kernel_rfl) rfl #[.agg #[.int .i64 ((rd_T35 l0_2 x6_1).f0), .int .i64 ((rd_T35 l0_2 x6_1).f1), .int .i64 ((rd_T35 l0_2 x6_1).f2)]] rfl mpE ?_; (with_reducible refine (bluebellref06_GoesOn.calls ((rd_T35 l0_2 x6_1).f0) ((rd_T35 l0_2 x6_1).f1) ((rd_T35 l0_2 x6_1).f2) false _ A160.out).mono ?_); rintro e w192 ⟨rfl, hb⟩; refine ⟨_, rfl, ?_⟩; replace BK393 := Aside0.mk (bkb (g := gb393) hb); replace BK395 := Aside0.mk (bkb (g := gb395) hb); replace HB := Aside0.mk (bstep hb); (try clear hb); obtain ⟨z193_0, z193_1, z193_2, y193_0, y193_1, y193_2⟩ := cells3 BK395.out))
            go_ret
            exact ⟨erE, bw⟩
           ·rw [if_neg c188] at H
            have c188b0 : (x6_1 == 0) = false := beq_eq_false_iff_ne.mpr c188
            have c188b1 : (x6_1 != 0) = true := bne_iff_ne.mpr c188
            have H' := Aside0.mk H
            clear H
            have hnb194 := NB393_395.out
            have hnc194 := NB395_393.out
            obtain ⟨z195_0, z195_1, z195_2, z195_3, z195_4, z195_5, y195_0, y195_1, y195_2, y195_3, y195_4, y195_5⟩ := cells6 BK393.out
            obtain ⟨z196_0, z196_1, z196_2, y196_0, y196_1, y196_2⟩ := cells3 BK395.out
            go_wp2_with (first | ((with_reducible refine gate_callee (f := 72) rfl ?_); refine goesL_ (some 89) rfl rfl Try.func72 (by kernel_rfl) rfl #[.agg #[.int .i64 ((rd_T35 l0_2 x6_1).f0), .int .i64 ((rd_T35 l0_2 x6_1).f1), .int .i64 ((rd_T35 l0_2 x6_1).f2)]] rfl mpE ?_; (with_reducible refine (bluebellref06_GoesOn.calls ((rd_T35 l0_2 x6_1).f0) ((rd_T35 l0_2 x6_1).f1) ((rd_T35 l0_2 x6_1).f2) false _ A160.out).mono ?_); rintro e w197 ⟨rfl, hb⟩; refine ⟨_, rfl, ?_⟩; replace BK393 := Aside0.mk (bkb (g := gb393) hb); replace BK395 := Aside0.mk (bkb (g := gb395) hb); replace HB := Aside0.mk (bstep hb); (try clear hb)))
            go_roundg kj9
            case measure => have := HK1.out; have := HJ9.out; omega
            case rel => exact ⟨(x3_1), (x4_1), (x5_9), (wrap64 (x6_1 + 1)), wrE, wrE, wrE, wrE, H', ⟨by have := HK1.out; have := HJ9.out; omega⟩, ⟨bk⟩, ⟨bw⟩⟩
   ·rw [if_neg c3] at H
    have c3b0 : decide (x6_1 < (l0_2.length : Int)) = false := decide_eq_false c3
    clear c3
    by_cases c198 : x5_1 = 0
    ·rw [if_pos c198] at H
     have c198b0 : (x5_1 == 0) = true := beq_iff_eq.mpr c198
     have c198b1 : (x5_1 != 0) = false := bne_eq_false_iff_eq.mpr c198
     clear c198
     by_cases c199 : x3_1 = a0_4
     ·rw [if_pos c199] at H
      have c199b0 : (x3_1 == a0_4) = true := beq_iff_eq.mpr c199
      have c199b1 : (x3_1 != a0_4) = false := bne_eq_false_iff_eq.mpr c199
      clear c199
      obtain rfl := Option.some.inj H
      obtain ⟨z200_0, z200_1, z200_2, z200_3, z200_4, z200_5, y200_0, y200_1, y200_2, y200_3, y200_4, y200_5⟩ := cells6 BK393.out
      go_wp2
      go_ret
      exact ⟨erE, bw⟩
     ·rw [if_neg c199] at H
      have c199b0 : (x3_1 == a0_4) = false := beq_eq_false_iff_ne.mpr c199
      have c199b1 : (x3_1 != a0_4) = true := bne_iff_ne.mpr c199
      obtain rfl := Option.some.inj H
      obtain ⟨z201_0, z201_1, z201_2, z201_3, z201_4, z201_5, y201_0, y201_1, y201_2, y201_3, y201_4, y201_5⟩ := cells6 BK393.out
      go_wp2
      go_ret
      exact ⟨erE, bw⟩
    ·rw [if_neg c198] at H
     have c198b0 : (x5_1 == 0) = false := beq_eq_false_iff_ne.mpr c198
     have c198b1 : (x5_1 != 0) = true := bne_iff_ne.mpr c198
     obtain rfl := Option.some.inj H
     obtain ⟨z202_0, z202_1, z202_2, z202_3, z202_4, z202_5, y202_0, y202_1, y202_2, y202_3, y202_4, y202_5⟩ := cells6 BK393.out
     go_wp2
     go_ret
     exact ⟨erE, bw⟩



/-! ### bluebellref06_Label: function 15 -/
def bluebellref06_Label.j0 : Nat → Int → Bool → Int → Int → Int → Option (Int)
 | 0, _, _, _, _, _ => none
 | k + 1, x4, x5, p0, p1, p2 => if x5 = true then (some p1) else (if x4 = 30 then (some p2) else (some 0))
def bluebellref06_Label.f (k : Nat) (a0_0 : Int) (a0_1 : Int) (a0_2 : Int) : Option (Int) := if a0_0 = 20 then (bluebellref06_Label.j0 k a0_0 (a0_0 == 20) a0_0 a0_1 a0_2) else (if a0_0 = 21 then (bluebellref06_Label.j0 k a0_0 (a0_0 == 21) a0_0 a0_1 a0_2) else (if a0_0 = 22 then (bluebellref06_Label.j0 k a0_0 (a0_0 == 22) a0_0 a0_1 a0_2) else (if a0_0 = 27 then (bluebellref06_Label.j0 k a0_0 (a0_0 == 27) a0_0 a0_1 a0_2) else (bluebellref06_Label.j0 k a0_0 (a0_0 == 29) a0_0 a0_1 a0_2))))
theorem bluebellref06_Label.mono_l : ∀ k, (∀ y0 y1 y2 y3 y4, LeO (bluebellref06_Label.j0 k y0 y1 y2 y3 y4) (bluebellref06_Label.j0 (k + 1) y0 y1 y2 y3 y4))
 | 0 => fun _ _ _ _ _ r h => by simp [bluebellref06_Label.j0] at h
 | k + 1 => by
  have ih0 := bluebellref06_Label.mono_l k
  ·intro y0 y1 y2 y3 y4
   unfold bluebellref06_Label.j0
   repeat' first
   | (with_reducible exact ih0 _ _ _ _ _)
   | (with_reducible exact LeO.refl _)
   | (with_reducible exact LeO.none _)
   | (with_reducible refine LeO.ite ?_ ?_)
   | (with_reducible refine LeO.bind ?_ (fun _ => ?_))
   | exact ih0 _ _ _ _ _
   | exact LeO.none _
   | refine LeO.ite ?_ ?_
   | refine LeO.bind ?_ (fun _ => ?_)
theorem bluebellref06_Label.mono : ∀ a0 a1 a2 k, LeO (bluebellref06_Label.f k a0 a1 a2) (bluebellref06_Label.f (k + 1) a0 a1 a2) := by
 intro a0 a1 a2 k
 have ih0 := bluebellref06_Label.mono_l k
 unfold bluebellref06_Label.f
 repeat' first
   | (with_reducible exact ih0 _ _ _ _ _)
   | (with_reducible exact LeO.refl _)
   | (with_reducible exact LeO.none _)
   | (with_reducible refine LeO.ite ?_ ?_)
   | (with_reducible refine LeO.bind ?_ (fun _ => ?_))
   | exact ih0 _ _ _ _ _
   | exact LeO.none _
   | refine LeO.ite ?_ ?_
   | refine LeO.bind ?_ (fun _ => ?_)
set_option maxHeartbeats 8000000 in
set_option maxRecDepth 100000 in
theorem bluebellref06_Label.calls (k : Nat) (a0_0 : Int) (a0_1 : Int) (a0_2 : Int) (r : Int) (w : World) (h : bluebellref06_Label.f k a0_0 a0_1 a0_2 = some r) :
  Calls Try.prog 15 #[.agg #[.int .i64 a0_0, .int .i64 a0_1, .int .i64 a0_2]] w fun e w' => e = .returned (.int .i64 r) ∧ Below w.heap.size w w' := by
 have hu35 := Try.underlying35
 have HB := Aside0.mk (Below.refl w.heap.size w)
 have H : (if a0_0 = 20 then (bluebellref06_Label.j0 k a0_0 (a0_0 == 20) a0_0 a0_1 a0_2) else (if a0_0 = 21 then (bluebellref06_Label.j0 k a0_0 (a0_0 == 21) a0_0 a0_1 a0_2) else (if a0_0 = 22 then (bluebellref06_Label.j0 k a0_0 (a0_0 == 22) a0_0 a0_1 a0_2) else (if a0_0 = 27 then (bluebellref06_Label.j0 k a0_0 (a0_0 == 27) a0_0 a0_1 a0_2) else (bluebellref06_Label.j0 k a0_0 (a0_0 == 29) a0_0 a0_1 a0_2))))) = some r := h
 clear h
 have HC2 := Aside0.mk H
 clear H
 go_enter Try.func15, Try.ntmps15
 go_upto_if 5 with (first | ((with_reducible refine gate_dst (N := 1) rfl ?_); refine boxev (N := 1) (cs := #[.int .i64 a0_0, .int .i64 a0_1, .int .i64 a0_2]) (t := 35) ?_; intro gb195 hg w3 hbox hb; have BK195 := Aside0.mk (hbox); have GW195 := Aside0.mk ((by rw [hg]; exact bsz : w.heap.size ≤ gb195)); have GE195 := Aside0.mk ((by rw [hg]; exact bsz : w.heap.size ≤ gb195)); replace HB := Aside0.mk (bstep hb); clear hb hbox hg; obtain ⟨z4_0, z4_1, z4_2, y4_0, y4_1, y4_2⟩ := cells3 BK195.out))
 (try simp only [Act.put, List.setIfInBounds_toArray, List.set_cons_zero, List.set_cons_succ])
 go_cut [5] (fun v5 wc => ∃ (kq : Nat) (x5_1 : Bool), v5 = .bool x5_1 ∧ Aside0 (bluebellref06_Label.j0 kq a0_0 x5_1 a0_0 a0_1 a0_2 = some r) ∧ Aside0 (kq ≤ k) ∧ Aside0 (wc.heap[gb195]? = some (.cells #[.int .i64 a0_0, .int .i64 a0_1, .int .i64 a0_2] 35 (0, 0))) ∧ Aside0 (Below w.heap.size w wc))
 case first =>
  have H := HC2.out
  clear HC2
  by_cases c5 : a0_0 = 20
  ·rw [if_pos c5] at H
   have c5b0 : (a0_0 == 20) = true := beq_iff_eq.mpr c5
   clear c5
   (first | rw [c5b0] | (simp only [i64_w, i32_w]; rw [c5b0]) | skip)
   have H' := Aside0.mk H
   clear H
   go_wp2
   (first | go_meet | (refine Met.intro ?_; go_step; (repeat apply Exists.intro); refine ⟨?rel, ?fr_⟩; (case fr_ => first | (simp only [c5b1, c5b0]; done) | (simp only [c5b1, c5b0]; rfl) | (simp only [c5b1, c5b0]; rfl))))
   case rel => exact ⟨_, ((a0_0 == 20)), wrE, H', ⟨by first | omega | exact Nat.le_refl _⟩, ⟨bk⟩, ⟨bw⟩⟩
  ·rw [if_neg c5] at H
   have c5b0 : (a0_0 == 20) = false := beq_eq_false_iff_ne.mpr c5
   (first | rw [c5b0] | (simp only [i64_w, i32_w]; rw [c5b0]) | skip)
   by_cases c6 : a0_0 = 21
   ·rw [if_pos c6] at H
    have c6b0 : (a0_0 == 21) = true := beq_iff_eq.mpr c6
    clear c6
    have H' := Aside0.mk H
    clear H
    go_wp2
    (first | go_meet | (refine Met.intro ?_; go_step; (repeat apply Exists.intro); refine ⟨?rel, ?fr_⟩; (case fr_ => first | (simp only [c6b1, c6b0, c5b1, c5b0]; done) | (simp only [c6b1, c6b0, c5b1, c5b0]; rfl) | (simp only [c6b1, c6b0, c5b1, c5b0]; rfl))))
    case rel => exact ⟨_, ((a0_0 == 21)), wrE, H', ⟨by first | omega | exact Nat.le_refl _⟩, ⟨bk⟩, ⟨bw⟩⟩
   ·rw [if_neg c6] at H
    have c6b0 : (a0_0 == 21) = false := beq_eq_false_iff_ne.mpr c6
    by_cases c7 : a0_0 = 22
    ·rw [if_pos c7] at H
     have c7b0 : (a0_0 == 22) = true := beq_iff_eq.mpr c7
     clear c7
     have H' := Aside0.mk H
     clear H
     go_wp2
     (first | go_meet | (refine Met.intro ?_; go_step; (repeat apply Exists.intro); refine ⟨?rel, ?fr_⟩; (case fr_ => first | (simp only [c7b1, c7b0, c6b1, c6b0, c5b1, c5b0]; done) | (simp only [c7b1, c7b0, c6b1, c6b0, c5b1, c5b0]; rfl) | (simp only [c7b1, c7b0, c6b1, c6b0, c5b1, c5b0]; rfl))))
     case rel => exact ⟨_, ((a0_0 == 22)), wrE, H', ⟨by first | omega | exact Nat.le_refl _⟩, ⟨bk⟩, ⟨bw⟩⟩
    ·rw [if_neg c7] at H
     have c7b0 : (a0_0 == 22) = false := beq_eq_false_iff_ne.mpr c7
     by_cases c8 : a0_0 = 27
     ·rw [if_pos c8] at H
      have c8b0 : (a0_0 == 27) = true := beq_iff_eq.mpr c8
      clear c8
      have H' := Aside0.mk H
      clear H
      go_wp2
      (first | go_meet | (refine Met.intro ?_; go_step; (repeat apply Exists.intro); refine ⟨?rel, ?fr_⟩; (case fr_ => first | (simp only [c8b1, c8b0, c7b1, c7b0, c6b1, c6b0, c5b1, c5b0]; done) | (simp only [c8b1, c8b0, c7b1, c7b0, c6b1, c6b0, c5b1, c5b0]; rfl) | (simp only [c8b1, c8b0, c7b1, c7b0, c6b1, c6b0, c5b1, c5b0]; rfl))))
      case rel => exact ⟨_, ((a0_0 == 27)), wrE, H', ⟨by first | omega | exact Nat.le_refl _⟩, ⟨bk⟩, ⟨bw⟩⟩
     ·rw [if_neg c8] at H
      have c8b0 : (a0_0 == 27) = false := beq_eq_false_iff_ne.mpr c8
      have H' := Aside0.mk H
      clear H
      go_wp2
      (first | go_meet | (refine Met.intro ?_; go_step; (repeat apply Exists.intro); refine ⟨?rel, ?fr_⟩; (case fr_ => first | (simp only [c8b1, c8b0, c7b1, c7b0, c6b1, c6b0, c5b1, c5b0]; done) | (simp only [c8b1, c8b0, c7b1, c7b0, c6b1, c6b0, c5b1, c5b0]; rfl) | (simp only [c8b1, c8b0, c7b1, c7b0, c6b1, c6b0, c5b1, c5b0]; rfl))))
      case rel => exact ⟨_, ((a0_0 == 29)), wrE, H', ⟨by first | omega | exact Nat.le_refl _⟩, ⟨bk⟩, ⟨bw⟩⟩
 case rest =>
  clear HC2
  clear z4_0 z4_1 z4_2 y4_0 y4_1 y4_2
  obtain ⟨kq, x5_1, rfl, HA, HJ1, BK195, HB⟩ := hcut
  cases kq with
  | zero => exact absurd HA.out (by simp [bluebellref06_Label.j0])
  | succ kj1 =>
   have H := HA.out
   clear HA
   simp only [bluebellref06_Label.j0] at H
   by_cases c9 : x5_1 = true
   ·subst c9
    have H1 : (some a0_1) = some r := by rw [if_pos rfl] at H; exact H
    clear H
    have H := H1
    clear H1
    obtain rfl := Option.some.inj H
    obtain ⟨z10_0, z10_1, z10_2, y10_0, y10_1, y10_2⟩ := cells3 BK195.out
    go_wp2
    go_ret
    exact ⟨erE, bw⟩
   ·replace c9 := Bool.eq_false_iff.mpr c9
    subst c9
    have H1 : (if a0_0 = 30 then (some a0_2) else (some 0)) = some r := by rw [if_neg (show ¬ (false = true) by decide)] at H; exact H
    clear H
    have H := H1
    clear H1
    by_cases c11 : a0_0 = 30
    ·rw [if_pos c11] at H
     have c11b0 : (a0_0 == 30) = true := beq_iff_eq.mpr c11
     clear c11
     obtain rfl := Option.some.inj H
     obtain ⟨z12_0, z12_1, z12_2, y12_0, y12_1, y12_2⟩ := cells3 BK195.out
     go_wp2
     go_ret
     exact ⟨erE, bw⟩
    ·rw [if_neg c11] at H
     have c11b0 : (a0_0 == 30) = false := beq_eq_false_iff_ne.mpr c11
     obtain rfl := Option.some.inj H
     go_wp2
     go_ret
     exact ⟨erE, bw⟩


end Go.Proofs.Ytkmcanknbdaliaa.PO
