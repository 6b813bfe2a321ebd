/- Lemmas for the law, put together: contracts of the program's functions and what they answer, in plain words (part 8). -/
import Derived.Test.YtkmcanknbdaliaaQChecks1
import Derived.Test.YtkmcanknbdaliaaQChecks6
import Derived.Test.YtkmcanknbdaliaaQChecks7
import Derived.Test.YtkmcanknbdaliaaQChecks4
import Derived.Test.YtkmcanknbdaliaaQChecksESame
import Derived.Test.YtkmcanknbdaliaaQChecksShort
namespace Go.Proofs.Ytkmcanknbdaliaa.PO
open Go.RowKit Go.Proofs.YtkmcanknbdaliaaW.PrintWords Go.Proofs.YtkmcanknbdaliaaW.PrintLast Go.Proofs.YtkmcanknbdaliaaW.PrintMore
attribute [local go_sem] max2_int min2_int max_two min_two max_three min_three max_four min_four   -- for this text's walks alone
set_option linter.unusedVariables false
set_option linter.unusedSimpArgs false

/-! ### bluebelllaw06_OcodeChecks: function 6 -/
def bluebelllaw06_OcodeChecks.f (k : Nat) (a0_0 : ByteArray) (l0_1 : List (S47)) (l0_2 : List (S35)) (l0_3 : List (S68)) (a0_4 : Int) (a0_5 : Int) : Option (Bool) := (bluebelllaw06_heavy.f k a0_0 l0_1 l0_2 l0_3 a0_4 a0_5).bind fun t469 => (if t469 = true then ((bluebelllaw06_awake.f k).bind fun t470 => (some t470)) else ((ocode_Check.f k a0_0 l0_1 l0_2 l0_3 a0_4 a0_5).bind fun t471 => ((bluebellref06_Check.f k a0_0 l0_1 l0_2 l0_3 a0_4 a0_5).bind fun t472 => (if t471 = t472 then ((ocode_Same.f a0_0 l0_1 l0_2 l0_3 a0_4 a0_5 a0_0 l0_1 l0_2 l0_3 a0_4 a0_5).bind fun t473 => (if t473 = true then ((bluebelllaw06_awake.f k).bind fun t474 => (some t474)) else (some false))) else (some false)))))
theorem bluebelllaw06_OcodeChecks.mono : ∀ a0 a1 a2 a3 a4 a5 k, LeO (bluebelllaw06_OcodeChecks.f k a0 a1 a2 a3 a4 a5) (bluebelllaw06_OcodeChecks.f (k + 1) a0 a1 a2 a3 a4 a5) := by
 intro a0 a1 a2 a3 a4 a5 k
 unfold bluebelllaw06_OcodeChecks.f
 repeat' first
   | (with_reducible exact bluebelllaw06_awake.mono _)
   | (with_reducible exact bluebelllaw06_heavy.mono _ _ _ _ _ _ _)
   | (with_reducible exact bluebellref06_Check.mono _ _ _ _ _ _ _)
   | (with_reducible exact ocode_Check.mono _ _ _ _ _ _ _)
   | (with_reducible exact LeO.refl _)
   | (with_reducible exact LeO.none _)
   | (with_reducible refine LeO.ite ?_ ?_)
   | (with_reducible refine LeO.bind ?_ (fun _ => ?_))
   | exact bluebelllaw06_awake.mono _
   | exact bluebelllaw06_heavy.mono _ _ _ _ _ _ _
   | exact bluebellref06_Check.mono _ _ _ _ _ _ _
   | exact ocode_Check.mono _ _ _ _ _ _ _
   | exact LeO.none _
   | refine LeO.ite ?_ ?_
   | refine LeO.bind ?_ (fun _ => ?_)
def bluebelllaw06_OcodeChecks.T3 : Bool × List (List Nat × List Nat) := (true, [([], []), ([0], [0]), ([], []), ([2, 1], [2]), ([1, 3], [1, 3]), ([4, 3], [4]), ([5], [5]), ([5], [5]), ([6, 7, 5, 5], [5, 6, 7]), ([5, 8], [5, 8]), ([9, 8], [9]), ([10, 10], [10]), ([10, 11], [10, 11]), ([12, 11, 0, 1, 2, 3, 4, 5, 6, 7, 8, 9, 10, 11, 12], [12])])
def bluebelllaw06_OcodeChecks.B3 : List Nat := [0, 1, 0, 7, 15, 31, 63, 63, 255, 511, 1023, 2047, 4095, 8191]
theorem bluebelllaw06_OcodeChecks.tab3 : rtab .any (opsOf Try.f6 3) = bluebelllaw06_OcodeChecks.T3 := by kernel_rfl
theorem bluebelllaw06_OcodeChecks.bits3 : waitsOk bluebelllaw06_OcodeChecks.T3.2 bluebelllaw06_OcodeChecks.B3 = true := by kernel_rfl
set_option maxHeartbeats 8000000 in
set_option maxRecDepth 100000 in
theorem bluebelllaw06_OcodeChecks.calls (k : Nat) (a0_0 : ByteArray) (A0_1 : Option Addr) (c0_1 : Nat) (l0_1 : List (S47)) (A0_2 : Option Addr) (c0_2 : Nat) (l0_2 : List (S35)) (A0_3 : Option Addr) (c0_3 : Nat) (l0_3 : List (S68)) (a0_4 : Int) (a0_5 : Int) (r : Bool) (w : World) (hr0_1 : Kd.C k47 w A0_1 l0_1.length l0_1) (hc0_1 : l0_1.length ≤ c0_1) (hr0_2 : Kd.C k35 w A0_2 l0_2.length l0_2) (hc0_2 : l0_2.length ≤ c0_2) (hr0_3 : Kd.C k68 w A0_3 l0_3.length l0_3) (hc0_3 : l0_3.length ≤ c0_3) (h : bluebelllaw06_OcodeChecks.f k a0_0 l0_1 l0_2 l0_3 a0_4 a0_5 = some r) :
  Calls Try.prog 6 #[.agg #[.string a0_0, .slice A0_1 l0_1.length c0_1, .slice A0_2 l0_2.length c0_2, .slice A0_3 l0_3.length c0_3, .int .i64 a0_4, .int .i64 a0_5]] w fun e w' => e = .returned (.bool r) ∧ Below w.heap.size w w' := by
 have hu26 := Try.underlying26
 have HR0_1 := Aside0.mk hr0_1
 have HC0_1 := Aside0.mk hc0_1
 clear hr0_1 hc0_1
 have HR0_2 := Aside0.mk hr0_2
 have HC0_2 := Aside0.mk hc0_2
 clear hr0_2 hc0_2
 have HR0_3 := Aside0.mk hr0_3
 have HC0_3 := Aside0.mk hc0_3
 clear hr0_3 hc0_3
 have HB := Aside0.mk (Below.refl w.heap.size w)
 have H : ((bluebelllaw06_heavy.f k a0_0 l0_1 l0_2 l0_3 a0_4 a0_5).bind fun t469 => (if t469 = true then ((bluebelllaw06_awake.f k).bind fun t470 => (some t470)) else ((ocode_Check.f k a0_0 l0_1 l0_2 l0_3 a0_4 a0_5).bind fun t471 => ((bluebellref06_Check.f k a0_0 l0_1 l0_2 l0_3 a0_4 a0_5).bind fun t472 => (if t471 = t472 then ((ocode_Same.f a0_0 l0_1 l0_2 l0_3 a0_4 a0_5 a0_0 l0_1 l0_2 l0_3 a0_4 a0_5).bind fun t473 => (if t473 = true then ((bluebelllaw06_awake.f k).bind fun t474 => (some t474)) else (some false))) else (some false)))))) = some r := h
 clear h
 replace H := Option.bind_eq_some_iff.mp H
 obtain ⟨t469, A20, H⟩ := H
 replace H : (if t469 = true then ((bluebelllaw06_awake.f k).bind fun t470 => (some t470)) else ((ocode_Check.f k a0_0 l0_1 l0_2 l0_3 a0_4 a0_5).bind fun t471 => ((bluebellref06_Check.f k a0_0 l0_1 l0_2 l0_3 a0_4 a0_5).bind fun t472 => (if t471 = t472 then ((ocode_Same.f a0_0 l0_1 l0_2 l0_3 a0_4 a0_5 a0_0 l0_1 l0_2 l0_3 a0_4 a0_5).bind fun t473 => (if t473 = true then ((bluebelllaw06_awake.f k).bind fun t474 => (some t474)) else (some false))) else (some false))))) = some r := H
 have A2 := Aside0.mk A20
 clear A20
 by_cases c3 : t469 = true
 ·subst c3
  have H1 : ((bluebelllaw06_awake.f k).bind fun t470 => (some t470)) = some r := by rw [if_pos rfl] at H; exact H
  clear H
  have H := H1
  clear H1
  replace H := Option.bind_eq_some_iff.mp H
  obtain ⟨t470, A40, H⟩ := H
  replace H : (some t470) = some r := H
  have A4 := Aside0.mk A40
  clear A40
  obtain rfl := Option.some.inj H
  go_enter Try.func6, Try.ntmps6
  go_wp2_with (first | ((with_reducible refine gate_dst (N := 1) rfl ?_); refine boxev (N := 1) (cs := #[.string a0_0, .slice A0_1 l0_1.length c0_1, .slice A0_2 l0_2.length c0_2, .slice A0_3 l0_3.length c0_3, .int .i64 a0_4, .int .i64 a0_5]) (t := 26) ?_; intro gb468 hg w5 hbox hb; have BK468 := Aside0.mk (hbox); have GW468 := Aside0.mk ((by rw [hg]; exact bsz : w.heap.size ≤ gb468)); have GE468 := Aside0.mk ((by rw [hg]; exact bsz : w.heap.size ≤ gb468)); replace HB := Aside0.mk (bstep hb); clear hb hbox hg; obtain ⟨z6_0, z6_1, z6_2, z6_3, z6_4, z6_5, y6_0, y6_1, y6_2, y6_3, y6_4, y6_5⟩ := cells6 BK468.out) | ((with_reducible refine gate_callee (f := 12) rfl ?_); refine goesL_ (some 4) rfl rfl Try.func12 (by kernel_rfl) rfl #[.agg #[.string a0_0, .slice A0_1 l0_1.length c0_1, .slice A0_2 l0_2.length c0_2, .slice A0_3 l0_3.length c0_3, .int .i64 a0_4, .int .i64 a0_5]] rfl mpE ?_; (with_reducible refine (bluebelllaw06_heavy.calls k a0_0 _ _ l0_1 _ _ l0_2 _ _ l0_3 a0_4 a0_5 true _ ?side1 ?side2 ?side3 ?side4 ?side5 ?side6 A2.out).mono ?_); (case side1 => exact kcb HR0_1.out); (case side2 => exact HC0_1.out); (case side3 => exact kcb HR0_2.out); (case side4 => exact HC0_2.out); (case side5 => exact kcb HR0_3.out); (case side6 => exact HC0_3.out); rintro e w7 ⟨rfl, hb⟩; refine ⟨_, rfl, ?_⟩; replace BK468 := Aside0.mk (bkb (g := gb468) hb); replace HB := Aside0.mk (bstep hb); (try clear hb)) | ((with_reducible refine gate_callee (f := 13) rfl ?_); refine goesL_ (some 5) rfl rfl Try.func13 (by kernel_rfl) rfl #[] rfl mpE ?_; (with_reducible refine (bluebelllaw06_awake.calls k  t470 _ A4.out).mono ?_); rintro e w8 ⟨rfl, hb⟩; refine ⟨_, rfl, ?_⟩; replace BK468 := Aside0.mk (bkb (g := gb468) hb); replace HB := Aside0.mk (bstep hb); (try clear hb)))
  go_ret
  exact ⟨erE, bw⟩
 ·replace c3 := Bool.eq_false_iff.mpr c3
  subst c3
  have H1 : ((ocode_Check.f k a0_0 l0_1 l0_2 l0_3 a0_4 a0_5).bind fun t471 => ((bluebellref06_Check.f k a0_0 l0_1 l0_2 l0_3 a0_4 a0_5).bind fun t472 => (if t471 = t472 then ((ocode_Same.f a0_0 l0_1 l0_2 l0_3 a0_4 a0_5 a0_0 l0_1 l0_2 l0_3 a0_4 a0_5).bind fun t473 => (if t473 = true then ((bluebelllaw06_awake.f k).bind fun t474 => (some t474)) else (some false))) else (some false)))) = some r := by rw [if_neg (show ¬ (false = true) by decide)] at H; exact H
  clear H
  have H := H1
  clear H1
  replace H := Option.bind_eq_some_iff.mp H
  obtain ⟨t471, A90, H⟩ := H
  replace H : ((bluebellref06_Check.f k a0_0 l0_1 l0_2 l0_3 a0_4 a0_5).bind fun t472 => (if t471 = t472 then ((ocode_Same.f a0_0 l0_1 l0_2 l0_3 a0_4 a0_5 a0_0 l0_1 l0_2 l0_3 a0_4 a0_5).bind fun t473 => (if t473 = true then ((bluebelllaw06_awake.f k).bind fun t474 => (some t474)) else (some false))) else (some false))) = some r := H
  have A9 := Aside0.mk A90
  clear A90
  replace H := Option.bind_eq_some_iff.mp H
  obtain ⟨t472, A100, H⟩ := H
  replace H : (if t471 = t472 then ((ocode_Same.f a0_0 l0_1 l0_2 l0_3 a0_4 a0_5 a0_0 l0_1 l0_2 l0_3 a0_4 a0_5).bind fun t473 => (if t473 = true then ((bluebelllaw06_awake.f k).bind fun t474 => (some t474)) else (some false))) else (some false)) = some r := H
  have A10 := Aside0.mk A100
  clear A100
  by_cases c11 : t471 = t472
  ·rw [if_pos c11] at H
   have c11b0 : (t471 == t472) = true := beq_iff_eq.mpr c11
   clear c11
   replace H := Option.bind_eq_some_iff.mp H
   obtain ⟨t473, A120, H⟩ := H
   replace H : (if t473 = true then ((bluebelllaw06_awake.f k).bind fun t474 => (some t474)) else (some false)) = some r := H
   have A12 := Aside0.mk A120
   clear A120
   by_cases c13 : t473 = true
   ·subst c13
    have H1 : ((bluebelllaw06_awake.f k).bind fun t474 => (some t474)) = some r := by rw [if_pos rfl] at H; exact H
    clear H
    have H := H1
    clear H1
    replace H := Option.bind_eq_some_iff.mp H
    obtain ⟨t474, A140, H⟩ := H
    replace H : (some t474) = some r := H
    have A14 := Aside0.mk A140
    clear A140
    obtain rfl := Option.some.inj H
    go_enter Try.func6, Try.ntmps6
    try go_wp2_with (first | ((with_reducible refine gate_dst (N := 1) rfl ?_); refine boxev (N := 1) (cs := #[.string a0_0, .slice A0_1 l0_1.length c0_1, .slice A0_2 l0_2.length c0_2, .slice A0_3 l0_3.length c0_3, .int .i64 a0_4, .int .i64 a0_5]) (t := 26) ?_; intro gb468 hg w15 hbox hb; have BK468 := Aside0.mk (hbox); have GW468 := Aside0.mk ((by rw [hg]; exact bsz : w.heap.size ≤ gb468)); have GE468 := Aside0.mk ((by rw [hg]; exact bsz : w.heap.size ≤ gb468)); replace HB := Aside0.mk (bstep hb); clear hb hbox hg; obtain ⟨z16_0, z16_1, z16_2, z16_3, z16_4, z16_5, y16_0, y16_1, y16_2, y16_3, y16_4, y16_5⟩ := cells6 BK468.out) | ((with_reducible refine gate_callee (f := 12) rfl ?_); refine goesL_ (some 4) rfl rfl Try.func12 (by kernel_rfl) rfl #[.agg #[.string a0_0, .slice A0_1 l0_1.length c0_1, .slice A0_2 l0_2.length c0_2, .slice A0_3 l0_3.length c0_3, .int .i64 a0_4, .int .i64 a0_5]] rfl mpE ?_; (with_reducible refine (bluebelllaw06_heavy.calls k a0_0 _ _ l0_1 _ _ l0_2 _ _ l0_3 a0_4 a0_5 false _ ?side1 ?side2 ?side3 ?side4 ?side5 ?side6 A2.out).mono ?_); (case side1 => exact kcb HR0_1.out); (case side2 => exact HC0_1.out); (case side3 => exact kcb HR0_2.out); (case side4 => exact HC0_2.out); (case side5 => exact kcb HR0_3.out); (case side6 => exact HC0_3.out); rintro e w17 ⟨rfl, hb⟩; refine ⟨_, rfl, ?_⟩; replace BK468 := Aside0.mk (bkb (g := gb468) hb); replace HB := Aside0.mk (bstep hb); (try clear hb)))
    have n0_ := Aside0.mk (blk_drew BK468.out)
    have n1_ := Aside0.mk (below_drew1 HB.out)
    clear BK468
    clear HB
    have BK468 := n0_
    have HB := n1_
    clear n0_ n1_
    refine start_ (n := 14) (S := fun w' => w'.cell? ⟨gb468, 0, none⟩ = some (.string a0_0) ∧ w'.cell? ⟨gb468, 1, none⟩ = some (.slice A0_1 l0_1.length c0_1) ∧ w'.cell? ⟨gb468, 2, none⟩ = some (.slice A0_2 l0_2.length c0_2) ∧ w'.cell? ⟨gb468, 3, none⟩ = some (.slice A0_3 l0_3.length c0_3) ∧ w'.cell? ⟨gb468, 4, none⟩ = some (.int .i64 a0_4) ∧ w'.cell? ⟨gb468, 5, none⟩ = some (.int .i64 a0_5)) (ds := []) #[false, false, false, false, false, false, false, false, false, false, false, false, false, false] (by kernel_rfl) rfl rfl ⟨(blk_cell BK468.out 0).trans rfl, (blk_cell BK468.out 1).trans rfl, (blk_cell BK468.out 2).trans rfl, (blk_cell BK468.out 3).trans rfl, (blk_cell BK468.out 4).trans rfl, (blk_cell BK468.out 5).trans rfl⟩ (fun hHeld => ?_); refine with_tabW bluebelllaw06_OcodeChecks.tab3 bluebelllaw06_OcodeChecks.bits3 (fun HT_ HW_ => ?_)
    generalize w17.drew = w18 at BK468 HB hHeld ⊢
    refine take_ (i := 0) (N := some 6) (v := ?_) (a' := ?_) #[true, false, false, false, false, false, false, false, false, false, false, false, false, false] rfl rfl (take_ofW HT_.out HW_.out (by kernel_rfl)) (fun _ _ _ h => h) (Or.inl ⟨by rfl, ?_⟩) hHeld ?_ ?_
    rotate_left
    ·rintro w' ⟨s0, s1, s2, s3, s4, s5⟩
     go_simp
     with_reducible rfl
    rotate_left
    ·simp only [Act.put, List.setIfInBounds_toArray, List.set_cons_zero, List.set_cons_succ, i64_w, i32_w]
     rfl
    refine take_ (i := 2) (N := some 8) (v := ?_) (a' := ?_) #[true, false, true, false, false, false, false, false, false, false, false, false, false, false] rfl rfl (take_ofW HT_.out HW_.out (by kernel_rfl)) (fun _ _ _ h => h) (Or.inl ⟨by rfl, ?_⟩) hHeld ?_ ?_
    rotate_left
    ·rintro w' ⟨s0, s1, s2, s3, s4, s5⟩
     go_simp
     with_reducible rfl
    rotate_left
    ·simp only [Act.put, List.setIfInBounds_toArray, List.set_cons_zero, List.set_cons_succ, i64_w, i32_w]
     rfl
    refine one_ (i := 1) (N := some 7) #[true, true, true, false, false, false, false, false, false, false, false, false, false, false] rfl rfl (one_of HT_.out (by kernel_rfl)) (by decide) (fun K hK => ?_)
    refine goes_ Try.func20 (by kernel_rfl) rfl #[.agg #[.string a0_0, .slice A0_1 l0_1.length c0_1, .slice A0_2 l0_2.length c0_2, .slice A0_3 l0_3.length c0_3, .int .i64 a0_4, .int .i64 a0_5]] (by rfl) rfl rfl mpE ?_
    with_reducible refine (ocode_Check.calls k a0_0 _ _ l0_1 _ _ l0_2 _ _ l0_3 a0_4 a0_5 t471 _ ?side1 ?side2 ?side3 ?side4 ?side5 ?side6 A9.out).mono ?_
    (case side1 => exact kcb HR0_1.out)
    (case side2 => exact HC0_1.out)
    (case side3 => exact kcb HR0_2.out)
    (case side4 => exact HC0_2.out)
    (case side5 => exact kcb HR0_3.out)
    (case side6 => exact HC0_3.out)
    rintro e w19 ⟨rfl, hb⟩
    refine ⟨_, rfl, ?_⟩
    have n0_ := Aside0.mk (bkb (g := gb468) hb)
    have n1_ := Aside0.mk (bstep hb)
    clear BK468
    clear HB
    have BK468 := n0_
    have HB := n1_
    clear n0_ n1_
    (try clear hb)
    skip
    skip
    skip
    refine hK.out _ _ ⟨(blk_cell BK468.out 0).trans rfl, (blk_cell BK468.out 1).trans rfl, (blk_cell BK468.out 2).trans rfl, (blk_cell BK468.out 3).trans rfl, (blk_cell BK468.out 4).trans rfl, (blk_cell BK468.out 5).trans rfl⟩ (fun hHeld => ?_)
    clear hK K
    refine norm_ (a' := ?_) ?_ ?_
    rotate_left
    ·show Act.put _ (some 7) _ = _
     simp only [Act.put, List.setIfInBounds_toArray, List.set_cons_zero, List.set_cons_succ, i64_w, i32_w]
     rfl
    refine one_ (i := 3) (N := some 9) #[true, true, true, true, false, false, false, false, false, false, false, false, false, false] rfl rfl (one_of HT_.out (by kernel_rfl)) (by decide) (fun K hK => ?_)
    refine goes_ Try.func22 (by kernel_rfl) rfl #[.agg #[.string a0_0, .slice A0_1 l0_1.length c0_1, .slice A0_2 l0_2.length c0_2, .slice A0_3 l0_3.length c0_3, .int .i64 a0_4, .int .i64 a0_5]] (by rfl) rfl rfl mpE ?_
    with_reducible refine (bluebellref06_Check.calls k a0_0 _ _ l0_1 _ _ l0_2 _ _ l0_3 a0_4 a0_5 t472 _ ?side1 ?side2 ?side3 ?side4 ?side5 ?side6 A10.out).mono ?_
    (case side1 => exact kcb HR0_1.out)
    (case side2 => exact HC0_1.out)
    (case side3 => exact kcb HR0_2.out)
    (case side4 => exact HC0_2.out)
    (case side5 => exact kcb HR0_3.out)
    (case side6 => exact HC0_3.out)
    rintro e w20 ⟨rfl, hb⟩
    refine ⟨_, rfl, ?_⟩
    have n0_ := Aside0.mk (bkb (g := gb468) hb)
    have n1_ := Aside0.mk (bstep hb)
    clear BK468
    clear HB
    have BK468 := n0_
    have HB := n1_
    clear n0_ n1_
    (try clear hb)
    skip
    skip
    skip
    refine hK.out _ _ ⟨(blk_cell BK468.out 0).trans rfl, (blk_cell BK468.out 1).trans rfl, (blk_cell BK468.out 2).trans rfl, (blk_cell BK468.out 3).trans rfl, (blk_cell BK468.out 4).trans rfl, (blk_cell BK468.out 5).trans rfl⟩ (fun hHeld => ?_)
    clear hK K
    refine norm_ (a' := ?_) ?_ ?_
    rotate_left
    ·show Act.put _ (some 9) _ = _
     simp only [Act.put, List.setIfInBounds_toArray, List.set_cons_zero, List.set_cons_succ, i64_w, i32_w]
     rfl
    refine pureE (i := 4) (N := some 10) #[true, true, true, true, true, false, false, false, false, false, false, false, false, false] HT_.out ?_
    refine pureE (i := 5) (N := some 11) #[true, true, true, true, true, true, false, false, false, false, false, false, false, false] HT_.out ?_
    refine take_ (i := 6) (N := some 12) (v := ?_) (a' := ?_) #[true, true, true, true, true, true, true, false, false, false, false, false, false, false] rfl rfl (take_ofW HT_.out HW_.out (by kernel_rfl)) (fun _ _ _ h => h) (Or.inl ⟨by rfl, ?_⟩) hHeld ?_ ?_
    rotate_left
    ·rintro w' ⟨s0, s1, s2, s3, s4, s5⟩
     go_simp
     with_reducible rfl
    rotate_left
    ·simp only [Act.put, List.setIfInBounds_toArray, List.set_cons_zero, List.set_cons_succ, i64_w, i32_w]
     rfl
    refine take_ (i := 7) (N := some 13) (v := ?_) (a' := ?_) #[true, true, true, true, true, true, true, true, false, false, false, false, false, false] rfl rfl (take_ofW HT_.out HW_.out (by kernel_rfl)) (fun _ _ _ h => h) (Or.inl ⟨by rfl, ?_⟩) hHeld ?_ ?_
    rotate_left
    ·rintro w' ⟨s0, s1, s2, s3, s4, s5⟩
     go_simp
     with_reducible rfl
    rotate_left
    ·simp only [Act.put, List.setIfInBounds_toArray, List.set_cons_zero, List.set_cons_succ, i64_w, i32_w]
     rfl
    refine one_ (i := 8) (N := some 14) #[true, true, true, true, true, true, true, true, true, false, false, false, false, false] rfl rfl (one_of HT_.out (by kernel_rfl)) (by decide) (fun K hK => ?_)
    refine goes_ Try.func23 (by kernel_rfl) rfl #[.agg #[.string a0_0, .slice A0_1 l0_1.length c0_1, .slice A0_2 l0_2.length c0_2, .slice A0_3 l0_3.length c0_3, .int .i64 a0_4, .int .i64 a0_5], .agg #[.string a0_0, .slice A0_1 l0_1.length c0_1, .slice A0_2 l0_2.length c0_2, .slice A0_3 l0_3.length c0_3, .int .i64 a0_4, .int .i64 a0_5]] (by rfl) rfl rfl mpE ?_
    with_reducible refine (ocode_Same.calls a0_0 _ _ l0_1 _ _ l0_2 _ _ l0_3 a0_4 a0_5 a0_0 _ _ l0_1 _ _ l0_2 _ _ l0_3 a0_4 a0_5 true _ ?side1 ?side2 ?side3 ?side4 ?side5 ?side6 ?side7 ?side8 ?side9 ?side10 ?side11 ?side12 A12.out).mono ?_
    (case side1 => exact kcb HR0_1.out)
    (case side2 => exact HC0_1.out)
    (case side3 => exact kcb HR0_2.out)
    (case side4 => exact HC0_2.out)
    (case side5 => exact kcb HR0_3.out)
    (case side6 => exact HC0_3.out)
    (case side7 => exact kcb HR0_1.out)
    (case side8 => exact HC0_1.out)
    (case side9 => exact kcb HR0_2.out)
    (case side10 => exact HC0_2.out)
    (case side11 => exact kcb HR0_3.out)
    (case side12 => exact HC0_3.out)
    rintro e w21 ⟨rfl, hb⟩
    refine ⟨_, rfl, ?_⟩
    have n0_ := Aside0.mk (bkb (g := gb468) hb)
    have n1_ := Aside0.mk (bstep hb)
    clear BK468
    clear HB
    have BK468 := n0_
    have HB := n1_
    clear n0_ n1_
    (try clear hb)
    skip
    skip
    skip
    refine hK.out _ _ ⟨(blk_cell BK468.out 0).trans rfl, (blk_cell BK468.out 1).trans rfl, (blk_cell BK468.out 2).trans rfl, (blk_cell BK468.out 3).trans rfl, (blk_cell BK468.out 4).trans rfl, (blk_cell BK468.out 5).trans rfl⟩ (fun hHeld => ?_)
    clear hK K
    refine norm_ (a' := ?_) ?_ ?_
    rotate_left
    ·show Act.put _ (some 14) _ = _
     simp only [Act.put, List.setIfInBounds_toArray, List.set_cons_zero, List.set_cons_succ, i64_w, i32_w]
     rfl
    refine pureE (i := 9) (N := some 15) #[true, true, true, true, true, true, true, true, true, true, false, false, false, false] HT_.out ?_
    refine pureE (i := 10) (N := some 16) #[true, true, true, true, true, true, true, true, true, true, true, false, false, false] HT_.out ?_
    refine one_ (i := 11) (N := some 17) #[true, true, true, true, true, true, true, true, true, true, true, true, false, false] rfl rfl (one_of HT_.out (by kernel_rfl)) (by decide) (fun K hK => ?_)
    refine goes_ Try.func13 (by kernel_rfl) rfl #[] (by rfl) rfl rfl mpE ?_
    with_reducible refine (bluebelllaw06_awake.calls k  t474 _ A14.out).mono ?_
    rintro e w22 ⟨rfl, hb⟩
    refine ⟨_, rfl, ?_⟩
    have n0_ := Aside0.mk (bkb (g := gb468) hb)
    have n1_ := Aside0.mk (bstep hb)
    clear BK468
    clear HB
    have BK468 := n0_
    have HB := n1_
    clear n0_ n1_
    (try clear hb)
    skip
    skip
    skip
    refine hK.out _ _ ⟨(blk_cell BK468.out 0).trans rfl, (blk_cell BK468.out 1).trans rfl, (blk_cell BK468.out 2).trans rfl, (blk_cell BK468.out 3).trans rfl, (blk_cell BK468.out 4).trans rfl, (blk_cell BK468.out 5).trans rfl⟩ (fun hHeld => ?_)
    clear hK K
    refine norm_ (a' := ?_) ?_ ?_
    rotate_left
    ·show Act.put _ (some 17) _ = _
     simp only [Act.put, List.setIfInBounds_toArray, List.set_cons_zero, List.set_cons_succ, i64_w, i32_w]
     rfl
    refine pureE (i := 12) (N := some 18) #[true, true, true, true, true, true, true, true, true, true, true, true, true, false] HT_.out ?_
    refine pureE (i := 13) (N := some 2) #[true, true, true, true, true, true, true, true, true, true, true, true, true, true] HT_.out ?_
    refine done_ (done_of HT_.out (by kernel_rfl)) ?_
    try go_wp2
    go_ret
    exact ⟨erE, bw⟩
   ·replace c13 := Bool.eq_false_iff.mpr c13
    subst c13
    have H1 : (some false) = some r := by rw [if_neg (show ¬ (false = true) by decide)] at H; exact H
    clear H
    have H := H1
    clear H1
    obtain rfl := Option.some.inj H
    go_enter Try.func6, Try.ntmps6
    try go_wp2_with (first | ((with_reducible refine gate_dst (N := 1) rfl ?_); refine boxev (N := 1) (cs := #[.string a0_0, .slice A0_1 l0_1.length c0_1, .slice A0_2 l0_2.length c0_2, .slice A0_3 l0_3.length c0_3, .int .i64 a0_4, .int .i64 a0_5]) (t := 26) ?_; intro gb468 hg w23 hbox hb; have BK468 := Aside0.mk (hbox); have GW468 := Aside0.mk ((by rw [hg]; exact bsz : w.heap.size ≤ gb468)); have GE468 := Aside0.mk ((by rw [hg]; exact bsz : w.heap.size ≤ gb468)); replace HB := Aside0.mk (bstep hb); clear hb hbox hg; obtain ⟨z24_0, z24_1, z24_2, z24_3, z24_4, z24_5, y24_0, y24_1, y24_2, y24_3, y24_4, y24_5⟩ := cells6 BK468.out) | ((with_reducible refine gate_callee (f := 12) rfl ?_); refine goesL_ (some 4) rfl rfl Try.func12 (by kernel_rfl) rfl #[.agg #[.string a0_0, .slice A0_1 l0_1.length c0_1, .slice A0_2 l0_2.length c0_2, .slice A0_3 l0_3.length c0_3, .int .i64 a0_4, .int .i64 a0_5]] rfl mpE ?_; (with_reducible refine (bluebelllaw06_heavy.calls k a0_0 _ _ l0_1 _ _ l0_2 _ _ l0_3 a0_4 a0_5 false _ ?side1 ?side2 ?side3 ?side4 ?side5 ?side6 A2.out).mono ?_); (case side1 => exact kcb HR0_1.out); (case side2 => exact HC0_1.out); (case side3 => exact kcb HR0_2.out); (case side4 => exact HC0_2.out); (case side5 => exact kcb HR0_3.out); (case side6 => exact HC0_3.out); rintro e w25 ⟨rfl, hb⟩; refine ⟨_, rfl, ?_⟩; replace BK468 := Aside0.mk (bkb (g := gb468) hb); replace HB := Aside0.mk (bstep hb); (try clear hb)))
    have n0_ := Aside0.mk (blk_drew BK468.out)
    have n1_ := Aside0.mk (below_drew1 HB.out)
    clear BK468
    clear HB
    have BK468 := n0_
    have HB := n1_
    clear n0_ n1_
    refine start_ (n := 14) (S := fun w' => w'.cell? ⟨gb468, 0, none⟩ = some (.string a0_0) ∧ w'.cell? ⟨gb468, 1, none⟩ = some (.slice A0_1 l0_1.length c0_1) ∧ w'.cell? ⟨gb468, 2, none⟩ = some (.slice A0_2 l0_2.length c0_2) ∧ w'.cell? ⟨gb468, 3, none⟩ = some (.slice A0_3 l0_3.length c0_3) ∧ w'.cell? ⟨gb468, 4, none⟩ = some (.int .i64 a0_4) ∧ w'.cell? ⟨gb468, 5, none⟩ = some (.int .i64 a0_5)) (ds := []) #[false, false, false, false, false, false, false, false, false, false, false, false, false, false] (by kernel_rfl) rfl rfl ⟨(blk_cell BK468.out 0).trans rfl, (blk_cell BK468.out 1).trans rfl, (blk_cell BK468.out 2).trans rfl, (blk_cell BK468.out 3).trans rfl, (blk_cell BK468.out 4).trans rfl, (blk_cell BK468.out 5).trans rfl⟩ (fun hHeld => ?_); refine with_tabW bluebelllaw06_OcodeChecks.tab3 bluebelllaw06_OcodeChecks.bits3 (fun HT_ HW_ => ?_)
    generalize w25.drew = w26 at BK468 HB hHeld ⊢
    refine take_ (i := 0) (N := some 6) (v := ?_) (a' := ?_) #[true, false, false, false, false, false, false, false, false, false, false, false, false, false] rfl rfl (take_ofW HT_.out HW_.out (by kernel_rfl)) (fun _ _ _ h => h) (Or.inl ⟨by rfl, ?_⟩) hHeld ?_ ?_
    rotate_left
    ·rintro w' ⟨s0, s1, s2, s3, s4, s5⟩
     go_simp
     with_reducible rfl
    rotate_left
    ·simp only [Act.put, List.setIfInBounds_toArray, List.set_cons_zero, List.set_cons_succ, i64_w, i32_w]
     rfl
    refine take_ (i := 2) (N := some 8) (v := ?_) (a' := ?_) #[true, false, true, false, false, false, false, false, false, false, false, false, false, false] rfl rfl (take_ofW HT_.out HW_.out (by kernel_rfl)) (fun _ _ _ h => h) (Or.inl ⟨by rfl, ?_⟩) hHeld ?_ ?_
    rotate_left
    ·rintro w' ⟨s0, s1, s2, s3, s4, s5⟩
     go_simp
     with_reducible rfl
    rotate_left
    ·simp only [Act.put, List.setIfInBounds_toArray, List.set_cons_zero, List.set_cons_succ, i64_w, i32_w]
     rfl
    refine one_ (i := 1) (N := some 7) #[true, true, true, false, false, false, false, false, false, false, false, false, false, false] rfl rfl (one_of HT_.out (by kernel_rfl)) (by decide) (fun K hK => ?_)
    refine goes_ Try.func20 (by kernel_rfl) rfl #[.agg #[.string a0_0, .slice A0_1 l0_1.length c0_1, .slice A0_2 l0_2.length c0_2, .slice A0_3 l0_3.length c0_3, .int .i64 a0_4, .int .i64 a0_5]] (by rfl) rfl rfl mpE ?_
    with_reducible refine (ocode_Check.calls k a0_0 _ _ l0_1 _ _ l0_2 _ _ l0_3 a0_4 a0_5 t471 _ ?side1 ?side2 ?side3 ?side4 ?side5 ?side6 A9.out).mono ?_
    (case side1 => exact kcb HR0_1.out)
    (case side2 => exact HC0_1.out)
    (case side3 => exact kcb HR0_2.out)
    (case side4 => exact HC0_2.out)
    (case side5 => exact kcb HR0_3.out)
    (case side6 => exact HC0_3.out)
    rintro e w27 ⟨rfl, hb⟩
    refine ⟨_, rfl, ?_⟩
    have n0_ := Aside0.mk (bkb (g := gb468) hb)
    have n1_ := Aside0.mk (bstep hb)
    clear BK468
    clear HB
    have BK468 := n0_
    have HB := n1_
    clear n0_ n1_
    (try clear hb)
    skip
    skip
    skip
    refine hK.out _ _ ⟨(blk_cell BK468.out 0).trans rfl, (blk_cell BK468.out 1).trans rfl, (blk_cell BK468.out 2).trans rfl, (blk_cell BK468.out 3).trans rfl, (blk_cell BK468.out 4).trans rfl, (blk_cell BK468.out 5).trans rfl⟩ (fun hHeld => ?_)
    clear hK K
    refine norm_ (a' := ?_) ?_ ?_
    rotate_left
    ·show Act.put _ (some 7) _ = _
     simp only [Act.put, List.setIfInBounds_toArray, List.set_cons_zero, List.set_cons_succ, i64_w, i32_w]
     rfl
    refine one_ (i := 3) (N := some 9) #[true, true, true, true, false, false, false, false, false, false, false, false, false, false] rfl rfl (one_of HT_.out (by kernel_rfl)) (by decide) (fun K hK => ?_)
    refine goes_ Try.func22 (by kernel_rfl) rfl #[.agg #[.string a0_0, .slice A0_1 l0_1.length c0_1, .slice A0_2 l0_2.length c0_2, .slice A0_3 l0_3.length c0_3, .int .i64 a0_4, .int .i64 a0_5]] (by rfl) rfl rfl mpE ?_
    with_reducible refine (bluebellref06_Check.calls k a0_0 _ _ l0_1 _ _ l0_2 _ _ l0_3 a0_4 a0_5 t472 _ ?side1 ?side2 ?side3 ?side4 ?side5 ?side6 A10.out).mono ?_
    (case side1 => exact kcb HR0_1.out)
    (case side2 => exact HC0_1.out)
    (case side3 => exact kcb HR0_2.out)
    (case side4 => exact HC0_2.out)
    (case side5 => exact kcb HR0_3.out)
    (case side6 => exact HC0_3.out)
    rintro e w28 ⟨rfl, hb⟩
    refine ⟨_, rfl, ?_⟩
    have n0_ := Aside0.mk (bkb (g := gb468) hb)
    have n1_ := Aside0.mk (bstep hb)
    clear BK468
    clear HB
    have BK468 := n0_
    have HB := n1_
    clear n0_ n1_
    (try clear hb)
    skip
    skip
    skip
    refine hK.out _ _ ⟨(blk_cell BK468.out 0).trans rfl, (blk_cell BK468.out 1).trans rfl, (blk_cell BK468.out 2).trans rfl, (blk_cell BK468.out 3).trans rfl, (blk_cell BK468.out 4).trans rfl, (blk_cell BK468.out 5).trans rfl⟩ (fun hHeld => ?_)
    clear hK K
    refine norm_ (a' := ?_) ?_ ?_
    rotate_left
    ·show Act.put _ (some 9) _ = _
     simp only [Act.put, List.setIfInBounds_toArray, List.set_cons_zero, List.set_cons_succ, i64_w, i32_w]
     rfl
    refine pureE (i := 4) (N := some 10) #[true, true, true, true, true, false, false, false, false, false, false, false, false, false] HT_.out ?_
    refine pureE (i := 5) (N := some 11) #[true, true, true, true, true, true, false, false, false, false, false, false, false, false] HT_.out ?_
    refine take_ (i := 6) (N := some 12) (v := ?_) (a' := ?_) #[true, true, true, true, true, true, true, false, false, false, false, false, false, false] rfl rfl (take_ofW HT_.out HW_.out (by kernel_rfl)) (fun _ _ _ h => h) (Or.inl ⟨by rfl, ?_⟩) hHeld ?_ ?_
    rotate_left
    ·rintro w' ⟨s0, s1, s2, s3, s4, s5⟩
     go_simp
     with_reducible rfl
    rotate_left
    ·simp only [Act.put, List.setIfInBounds_toArray, List.set_cons_zero, List.set_cons_succ, i64_w, i32_w]
     rfl
    refine take_ (i := 7) (N := some 13) (v := ?_) (a' := ?_) #[true, true, true, true, true, true, true, true, false, false, false, false, false, false] rfl rfl (take_ofW HT_.out HW_.out (by kernel_rfl)) (fun _ _ _ h => h) (Or.inl ⟨by rfl, ?_⟩) hHeld ?_ ?_
    rotate_left
    ·rintro w' ⟨s0, s1, s2, s3, s4, s5⟩
     go_simp
     with_reducible rfl
    rotate_left
    ·simp only [Act.put, List.setIfInBounds_toArray, List.set_cons_zero, List.set_cons_succ, i64_w, i32_w]
     rfl
    refine one_ (i := 8) (N := some 14) #[true, true, true, true, true, true, true, true, true, false, false, false, false, false] rfl rfl (one_of HT_.out (by kernel_rfl)) (by decide) (fun K hK => ?_)
    refine goes_ Try.func23 (by kernel_rfl) rfl #[.agg #[.string a0_0, .slice A0_1 l0_1.length c0_1, .slice A0_2 l0_2.length c0_2, .slice A0_3 l0_3.length c0_3, .int .i64 a0_4, .int .i64 a0_5], .agg #[.string a0_0, .slice A0_1 l0_1.length c0_1, .slice A0_2 l0_2.length c0_2, .slice A0_3 l0_3.length c0_3, .int .i64 a0_4, .int .i64 a0_5]] (by rfl) rfl rfl mpE ?_
    with_reducible refine (ocode_Same.calls a0_0 _ _ l0_1 _ _ l0_2 _ _ l0_3 a0_4 a0_5 a0_0 _ _ l0_1 _ _ l0_2 _ _ l0_3 a0_4 a0_5 false _ ?side1 ?side2 ?side3 ?side4 ?side5 ?side6 ?side7 ?side8 ?side9 ?side10 ?side11 ?side12 A12.out).mono ?_
    (case side1 => exact kcb HR0_1.out)
    (case side2 => exact HC0_1.out)
    (case side3 => exact kcb HR0_2.out)
    (case side4 => exact HC0_2.out)
    (case side5 => exact kcb HR0_3.out)
    (case side6 => exact HC0_3.out)
    (case side7 => exact kcb HR0_1.out)
    (case side8 => exact HC0_1.out)
    (case side9 => exact kcb HR0_2.out)
    (case side10 => exact HC0_2.out)
    (case side11 => exact kcb HR0_3.out)
    (case side12 => exact HC0_3.out)
    rintro e w29 ⟨rfl, hb⟩
    refine ⟨_, rfl, ?_⟩
    have n0_ := Aside0.mk (bkb (g := gb468) hb)
    have n1_ := Aside0.mk (bstep hb)
    clear BK468
    clear HB
    have BK468 := n0_
    have HB := n1_
    clear n0_ n1_
    (try clear hb)
    skip
    skip
    skip
    refine hK.out _ _ ⟨(blk_cell BK468.out 0).trans rfl, (blk_cell BK468.out 1).trans rfl, (blk_cell BK468.out 2).trans rfl, (blk_cell BK468.out 3).trans rfl, (blk_cell BK468.out 4).trans rfl, (blk_cell BK468.out 5).trans rfl⟩ (fun hHeld => ?_)
    clear hK K
    refine norm_ (a' := ?_) ?_ ?_
    rotate_left
    ·show Act.put _ (some 14) _ = _
     simp only [Act.put, List.setIfInBounds_toArray, List.set_cons_zero, List.set_cons_succ, i64_w, i32_w]
     rfl
    refine pureE (i := 9) (N := some 15) #[true, true, true, true, true, true, true, true, true, true, false, false, false, false] HT_.out ?_
    refine pureE (i := 10) (N := some 16) #[true, true, true, true, true, true, true, true, true, true, true, false, false, false] HT_.out ?_
    refine pureU (i := 11) (N := some 17) #[true, true, true, true, true, true, true, true, true, true, true, true, false, false] HT_.out ?_
    refine pureE (i := 12) (N := some 18) #[true, true, true, true, true, true, true, true, true, true, true, true, true, false] HT_.out ?_
    refine pureE (i := 13) (N := some 2) #[true, true, true, true, true, true, true, true, true, true, true, true, true, true] HT_.out ?_
    refine done_ (done_of HT_.out (by kernel_rfl)) ?_
    try go_wp2
    go_ret
    exact ⟨erE, bw⟩
  ·rw [if_neg c11] at H
   have c11b0 : (t471 == t472) = false := beq_eq_false_iff_ne.mpr c11
   obtain rfl := Option.some.inj H
   go_enter Try.func6, Try.ntmps6
   try go_wp2_with (first | ((with_reducible refine gate_dst (N := 1) rfl ?_); refine boxev (N := 1) (cs := #[.string a0_0, .slice A0_1 l0_1.length c0_1, .slice A0_2 l0_2.length c0_2, .slice A0_3 l0_3.length c0_3, .int .i64 a0_4, .int .i64 a0_5]) (t := 26) ?_; intro gb468 hg w30 hbox hb; have BK468 := Aside0.mk (hbox); have GW468 := Aside0.mk ((by rw [hg]; exact bsz : w.heap.size ≤ gb468)); have GE468 := Aside0.mk ((by rw [hg]; exact bsz : w.heap.size ≤ gb468)); replace HB := Aside0.mk (bstep hb); clear hb hbox hg; obtain ⟨z31_0, z31_1, z31_2, z31_3, z31_4, z31_5, y31_0, y31_1, y31_2, y31_3, y31_4, y31_5⟩ := cells6 BK468.out) | ((with_reducible refine gate_callee (f := 12) rfl ?_); refine goesL_ (some 4) rfl rfl Try.func12 (by kernel_rfl) rfl #[.agg #[.string a0_0, .slice A0_1 l0_1.length c0_1, .slice A0_2 l0_2.length c0_2, .slice A0_3 l0_3.length c0_3, .int .i64 a0_4, .int .i64 a0_5]] rfl mpE ?_; (with_reducible refine (bluebelllaw06_heavy.calls k a0_0 _ _ l0_1 _ _ l0_2 _ _ l0_3 a0_4 a0_5 false _ ?side1 ?side2 ?side3 ?side4 ?side5 ?side6 A2.out).mono ?_); (case side1 => exact kcb HR0_1.out); (case side2 => exact HC0_1.out); (case side3 => exact kcb HR0_2.out); (case side4 => exact HC0_2.out); (case side5 => exact kcb HR0_3.out); (case side6 => exact HC0_3.out); rintro e w32 ⟨rfl, hb⟩; refine ⟨_, rfl, ?_⟩; replace BK468 := Aside0.mk (bkb (g := gb468) hb); replace HB := Aside0.mk (bstep hb); (try clear hb)))
   have n0_ := Aside0.mk (blk_drew BK468.out)
   have n1_ := Aside0.mk (below_drew1 HB.out)
   clear BK468
   clear HB
   have BK468 := n0_
   have HB := n1_
   clear n0_ n1_
   refine start_ (n := 14) (S := fun w' => w'.cell? ⟨gb468, 0, none⟩ = some (.string a0_0) ∧ w'.cell? ⟨gb468, 1, none⟩ = some (.slice A0_1 l0_1.length c0_1) ∧ w'.cell? ⟨gb468, 2, none⟩ = some (.slice A0_2 l0_2.length c0_2) ∧ w'.cell? ⟨gb468, 3, none⟩ = some (.slice A0_3 l0_3.length c0_3) ∧ w'.cell? ⟨gb468, 4, none⟩ = some (.int .i64 a0_4) ∧ w'.cell? ⟨gb468, 5, none⟩ = some (.int .i64 a0_5)) (ds := []) #[false, false, false, false, false, false, false, false, false, false, false, false, false, false] (by kernel_rfl) rfl rfl ⟨(blk_cell BK468.out 0).trans rfl, (blk_cell BK468.out 1).trans rfl, (blk_cell BK468.out 2).trans rfl, (blk_cell BK468.out 3).trans rfl, (blk_cell BK468.out 4).trans rfl, (blk_cell BK468.out 5).trans rfl⟩ (fun hHeld => ?_); refine with_tabW bluebelllaw06_OcodeChecks.tab3 bluebelllaw06_OcodeChecks.bits3 (fun HT_ HW_ => ?_)
   generalize w32.drew = w33 at BK468 HB hHeld ⊢
   refine take_ (i := 0) (N := some 6) (v := ?_) (a' := ?_) #[true, false, false, false, false, false, false, false, false, false, false, false, false, false] rfl rfl (take_ofW HT_.out HW_.out (by kernel_rfl)) (fun _ _ _ h => h) (Or.inl ⟨by rfl, ?_⟩) hHeld ?_ ?_
   rotate_left
   ·rintro w' ⟨s0, s1, s2, s3, s4, s5⟩
    go_simp
    with_reducible rfl
   rotate_left
   ·simp only [Act.put, List.setIfInBounds_toArray, List.set_cons_zero, List.set_cons_succ, i64_w, i32_w]
    rfl
   refine take_ (i := 2) (N := some 8) (v := ?_) (a' := ?_) #[true, false, true, false, false, false, false, false, false, false, false, false, false, false] rfl rfl (take_ofW HT_.out HW_.out (by kernel_rfl)) (fun _ _ _ h => h) (Or.inl ⟨by rfl, ?_⟩) hHeld ?_ ?_
   rotate_left
   ·rintro w' ⟨s0, s1, s2, s3, s4, s5⟩
    go_simp
    with_reducible rfl
   rotate_left
   ·simp only [Act.put, List.setIfInBounds_toArray, List.set_cons_zero, List.set_cons_succ, i64_w, i32_w]
    rfl
   refine one_ (i := 1) (N := some 7) #[true, true, true, false, false, false, false, false, false, false, false, false, false, false] rfl rfl (one_of HT_.out (by kernel_rfl)) (by decide) (fun K hK => ?_)
   refine goes_ Try.func20 (by kernel_rfl) rfl #[.agg #[.string a0_0, .slice A0_1 l0_1.length c0_1, .slice A0_2 l0_2.length c0_2, .slice A0_3 l0_3.length c0_3, .int .i64 a0_4, .int .i64 a0_5]] (by rfl) rfl rfl mpE ?_
   with_reducible refine (ocode_Check.calls k a0_0 _ _ l0_1 _ _ l0_2 _ _ l0_3 a0_4 a0_5 t471 _ ?side1 ?side2 ?side3 ?side4 ?side5 ?side6 A9.out).mono ?_
   (case side1 => exact kcb HR0_1.out)
   (case side2 => exact HC0_1.out)
   (case side3 => exact kcb HR0_2.out)
   (case side4 => exact HC0_2.out)
   (case side5 => exact kcb HR0_3.out)
   (case side6 => exact HC0_3.out)
   rintro e w34 ⟨rfl, hb⟩
   refine ⟨_, rfl, ?_⟩
   have n0_ := Aside0.mk (bkb (g := gb468) hb)
   have n1_ := Aside0.mk (bstep hb)
   clear BK468
   clear HB
   have BK468 := n0_
   have HB := n1_
   clear n0_ n1_
   (try clear hb)
   skip
   skip
   skip
   refine hK.out _ _ ⟨(blk_cell BK468.out 0).trans rfl, (blk_cell BK468.out 1).trans rfl, (blk_cell BK468.out 2).trans rfl, (blk_cell BK468.out 3).trans rfl, (blk_cell BK468.out 4).trans rfl, (blk_cell BK468.out 5).trans rfl⟩ (fun hHeld => ?_)
   clear hK K
   refine norm_ (a' := ?_) ?_ ?_
   rotate_left
   ·show Act.put _ (some 7) _ = _
    simp only [Act.put, List.setIfInBounds_toArray, List.set_cons_zero, List.set_cons_succ, i64_w, i32_w]
    rfl
   refine one_ (i := 3) (N := some 9) #[true, true, true, true, false, false, false, false, false, false, false, false, false, false] rfl rfl (one_of HT_.out (by kernel_rfl)) (by decide) (fun K hK => ?_)
   refine goes_ Try.func22 (by kernel_rfl) rfl #[.agg #[.string a0_0, .slice A0_1 l0_1.length c0_1, .slice A0_2 l0_2.length c0_2, .slice A0_3 l0_3.length c0_3, .int .i64 a0_4, .int .i64 a0_5]] (by rfl) rfl rfl mpE ?_
   with_reducible refine (bluebellref06_Check.calls k a0_0 _ _ l0_1 _ _ l0_2 _ _ l0_3 a0_4 a0_5 t472 _ ?side1 ?side2 ?side3 ?side4 ?side5 ?side6 A10.out).mono ?_
   (case side1 => exact kcb HR0_1.out)
   (case side2 => exact HC0_1.out)
   (case side3 => exact kcb HR0_2.out)
   (case side4 => exact HC0_2.out)
   (case side5 => exact kcb HR0_3.out)
   (case side6 => exact HC0_3.out)
   rintro e w35 ⟨rfl, hb⟩
   refine ⟨_, rfl, ?_⟩
   have n0_ := Aside0.mk (bkb (g := gb468) hb)
   have n1_ := Aside0.mk (bstep hb)
   clear BK468
   clear HB
   have BK468 := n0_
   have HB := n1_
   clear n0_ n1_
   (try clear hb)
   skip
   skip
   skip
   refine hK.out _ _ ⟨(blk_cell BK468.out 0).trans rfl, (blk_cell BK468.out 1).trans rfl, (blk_cell BK468.out 2).trans rfl, (blk_cell BK468.out 3).trans rfl, (blk_cell BK468.out 4).trans rfl, (blk_cell BK468.out 5).trans rfl⟩ (fun hHeld => ?_)
   clear hK K
   refine norm_ (a' := ?_) ?_ ?_
   rotate_left
   ·show Act.put _ (some 9) _ = _
    simp only [Act.put, List.setIfInBounds_toArray, List.set_cons_zero, List.set_cons_succ, i64_w, i32_w]
    rfl
   refine pureE (i := 4) (N := some 10) #[true, true, true, true, true, false, false, false, false, false, false, false, false, false] HT_.out ?_
   refine pureE (i := 5) (N := some 11) #[true, true, true, true, true, true, false, false, false, false, false, false, false, false] HT_.out ?_
   refine pureU (i := 6) (N := some 12) #[true, true, true, true, true, true, true, false, false, false, false, false, false, false] HT_.out ?_
   refine pureU (i := 7) (N := some 13) #[true, true, true, true, true, true, true, true, false, false, false, false, false, false] HT_.out ?_
   refine pureU (i := 8) (N := some 14) #[true, true, true, true, true, true, true, true, true, false, false, false, false, false] HT_.out ?_
   refine pureE (i := 9) (N := some 15) #[true, true, true, true, true, true, true, true, true, true, false, false, false, false] HT_.out ?_
   refine pureE (i := 10) (N := some 16) #[true, true, true, true, true, true, true, true, true, true, true, false, false, false] HT_.out ?_
   refine pureU (i := 11) (N := some 17) #[true, true, true, true, true, true, true, true, true, true, true, true, false, false] HT_.out ?_
   refine pureE (i := 12) (N := some 18) #[true, true, true, true, true, true, true, true, true, true, true, true, true, false] HT_.out ?_
   refine pureE (i := 13) (N := some 2) #[true, true, true, true, true, true, true, true, true, true, true, true, true, true] HT_.out ?_
   refine done_ (done_of HT_.out (by kernel_rfl)) ?_
   try go_wp2
   go_ret
   exact ⟨erE, bw⟩


end Go.Proofs.Ytkmcanknbdaliaa.PO
