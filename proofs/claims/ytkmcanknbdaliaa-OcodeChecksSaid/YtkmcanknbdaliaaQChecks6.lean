/- Lemmas for the law, put together: contracts of the program's functions and what they answer, in plain words (part 6). -/
import Derived.Test.YtkmcanknbdaliaaQChecks1
import Derived.Test.YtkmcanknbdaliaaQChecksECoded
import Derived.Test.YtkmcanknbdaliaaQChecksEStacked
import Derived.Test.YtkmcanknbdaliaaQChecksShort
namespace Go.Proofs.Ytkmcanknbdaliaa.PO
open Go.RowKit Go.Proofs.YtkmcanknbdaliaaW.PrintWords Go.Proofs.YtkmcanknbdaliaaW.PrintLast Go.Proofs.YtkmcanknbdaliaaW.PrintMore
attribute [local go_sem] max2_int min2_int max_two min_two max_three min_three max_four min_four   -- for this text's walks alone
set_option linter.unusedVariables false
set_option linter.unusedSimpArgs false

/-! ### ocode_Check: function 20 -/
def ocode_Check.f (k : Nat) (a0_0 : ByteArray) (l0_1 : List (S47)) (l0_2 : List (S35)) (l0_3 : List (S68)) (a0_4 : Int) (a0_5 : Int) : Option (Int) := (ocode_large.f k a0_0 l0_1 l0_2 l0_3 a0_4 a0_5).bind fun t168 => (if t168 = true then (some 2) else ((ocode_coded.f a0_0 l0_1 l0_2 l0_3 a0_4 a0_5).bind fun t169 => (if t169 = true then ((ocode_stacked.f a0_0 l0_1 l0_2 l0_3 a0_4 a0_5).bind fun t170 => (if t170 = true then (some 0) else (some 61))) else (some 60))))
theorem ocode_Check.mono : ∀ a0 a1 a2 a3 a4 a5 k, LeO (ocode_Check.f k a0 a1 a2 a3 a4 a5) (ocode_Check.f (k + 1) a0 a1 a2 a3 a4 a5) := by
 intro a0 a1 a2 a3 a4 a5 k
 unfold ocode_Check.f
 repeat' first
   | (with_reducible exact ocode_large.mono _ _ _ _ _ _ _)
   | (with_reducible exact LeO.refl _)
   | (with_reducible exact LeO.none _)
   | (with_reducible refine LeO.ite ?_ ?_)
   | (with_reducible refine LeO.bind ?_ (fun _ => ?_))
   | exact ocode_large.mono _ _ _ _ _ _ _
   | exact LeO.none _
   | refine LeO.ite ?_ ?_
   | refine LeO.bind ?_ (fun _ => ?_)
set_option maxHeartbeats 8000000 in
set_option maxRecDepth 100000 in
theorem ocode_Check.calls (k : Nat) (a0_0 : ByteArray) (A0_1 : Option Addr) (c0_1 : Nat) (l0_1 : List (S47)) (A0_2 : Option Addr) (c0_2 : Nat) (l0_2 : List (S35)) (A0_3 : Option Addr) (c0_3 : Nat) (l0_3 : List (S68)) (a0_4 : Int) (a0_5 : Int) (r : Int) (w : World) (hr0_1 : Kd.C k47 w A0_1 l0_1.length l0_1) (hc0_1 : l0_1.length ≤ c0_1) (hr0_2 : Kd.C k35 w A0_2 l0_2.length l0_2) (hc0_2 : l0_2.length ≤ c0_2) (hr0_3 : Kd.C k68 w A0_3 l0_3.length l0_3) (hc0_3 : l0_3.length ≤ c0_3) (h : ocode_Check.f k a0_0 l0_1 l0_2 l0_3 a0_4 a0_5 = some r) :
  Calls Try.prog 20 #[.agg #[.string a0_0, .slice A0_1 l0_1.length c0_1, .slice A0_2 l0_2.length c0_2, .slice A0_3 l0_3.length c0_3, .int .i64 a0_4, .int .i64 a0_5]] w fun e w' => e = .returned (.int .i64 r) ∧ Below w.heap.size w w' := by
 have hu26 := Try.underlying26
 have HR0_1 := Aside0.mk hr0_1
 have HC0_1 := Aside0.mk hc0_1
 clear hr0_1 hc0_1
 have HR0_2 := Aside0.mk hr0_2
 have HC0_2 := Aside0.mk hc0_2
 clear hr0_2 hc0_2
 have HR0_3 := Aside0.mk hr0_3
 have HC0_3 := Aside0.mk hc0_3
 clear hr0_3 hc0_3
 have HB := Aside0.mk (Below.refl w.heap.size w)
 have H : ((ocode_large.f k a0_0 l0_1 l0_2 l0_3 a0_4 a0_5).bind fun t168 => (if t168 = true then (some 2) else ((ocode_coded.f a0_0 l0_1 l0_2 l0_3 a0_4 a0_5).bind fun t169 => (if t169 = true then ((ocode_stacked.f a0_0 l0_1 l0_2 l0_3 a0_4 a0_5).bind fun t170 => (if t170 = true then (some 0) else (some 61))) else (some 60))))) = some r := h
 clear h
 replace H := Option.bind_eq_some_iff.mp H
 obtain ⟨t168, A20, H⟩ := H
 replace H : (if t168 = true then (some 2) else ((ocode_coded.f a0_0 l0_1 l0_2 l0_3 a0_4 a0_5).bind fun t169 => (if t169 = true then ((ocode_stacked.f a0_0 l0_1 l0_2 l0_3 a0_4 a0_5).bind fun t170 => (if t170 = true then (some 0) else (some 61))) else (some 60)))) = some r := H
 have A2 := Aside0.mk A20
 clear A20
 by_cases c3 : t168 = true
 ·subst c3
  have H1 : (some 2) = some r := by rw [if_pos rfl] at H; exact H
  clear H
  have H := H1
  clear H1
  obtain rfl := Option.some.inj H
  go_enter Try.func20, Try.ntmps20
  go_wp2_with (first | ((with_reducible refine gate_dst (N := 1) rfl ?_); refine boxev (N := 1) (cs := #[.string a0_0, .slice A0_1 l0_1.length c0_1, .slice A0_2 l0_2.length c0_2, .slice A0_3 l0_3.length c0_3, .int .i64 a0_4, .int .i64 a0_5]) (t := 26) ?_; intro gb167 hg w4 hbox hb; have BK167 := Aside0.mk (hbox); have GW167 := Aside0.mk ((by rw [hg]; exact bsz : w.heap.size ≤ gb167)); have GE167 := Aside0.mk ((by rw [hg]; exact bsz : w.heap.size ≤ gb167)); replace HB := Aside0.mk (bstep hb); clear hb hbox hg; obtain ⟨z5_0, z5_1, z5_2, z5_3, z5_4, z5_5, y5_0, y5_1, y5_2, y5_3, y5_4, y5_5⟩ := cells6 BK167.out) | ((with_reducible refine gate_callee (f := 39) rfl ?_); refine goesL_ (some 5) rfl rfl Try.func39 (by kernel_rfl) rfl #[.agg #[.string a0_0, .slice A0_1 l0_1.length c0_1, .slice A0_2 l0_2.length c0_2, .slice A0_3 l0_3.length c0_3, .int .i64 a0_4, .int .i64 a0_5]] rfl mpE ?_; (with_reducible refine (ocode_large.calls k a0_0 _ _ l0_1 _ _ l0_2 _ _ l0_3 a0_4 a0_5 true _ ?side1 ?side2 ?side3 ?side4 ?side5 ?side6 A2.out).mono ?_); (case side1 => exact kcb HR0_1.out); (case side2 => exact HC0_1.out); (case side3 => exact kcb HR0_2.out); (case side4 => exact HC0_2.out); (case side5 => exact kcb HR0_3.out); (case side6 => exact HC0_3.out); rintro e w6 ⟨rfl, hb⟩; refine ⟨_, rfl, ?_⟩; replace BK167 := Aside0.mk (bkb (g := gb167) hb); replace HB := Aside0.mk (bstep hb); (try clear hb)))
  go_ret
  exact ⟨erE, bw⟩
 ·replace c3 := Bool.eq_false_iff.mpr c3
  subst c3
  have H1 : ((ocode_coded.f a0_0 l0_1 l0_2 l0_3 a0_4 a0_5).bind fun t169 => (if t169 = true then ((ocode_stacked.f a0_0 l0_1 l0_2 l0_3 a0_4 a0_5).bind fun t170 => (if t170 = true then (some 0) else (some 61))) else (some 60))) = some r := by rw [if_neg (show ¬ (false = true) by decide)] at H; exact H
  clear H
  have H := H1
  clear H1
  replace H := Option.bind_eq_some_iff.mp H
  obtain ⟨t169, A70, H⟩ := H
  replace H : (if t169 = true then ((ocode_stacked.f a0_0 l0_1 l0_2 l0_3 a0_4 a0_5).bind fun t170 => (if t170 = true then (some 0) else (some 61))) else (some 60)) = some r := H
  have A7 := Aside0.mk A70
  clear A70
  by_cases c8 : t169 = true
  ·subst c8
   have H1 : ((ocode_stacked.f a0_0 l0_1 l0_2 l0_3 a0_4 a0_5).bind fun t170 => (if t170 = true then (some 0) else (some 61))) = some r := by rw [if_pos rfl] at H; exact H
   clear H
   have H := H1
   clear H1
   replace H := Option.bind_eq_some_iff.mp H
   obtain ⟨t170, A90, H⟩ := H
   replace H : (if t170 = true then (some 0) else (some 61)) = some r := H
   have A9 := Aside0.mk A90
   clear A90
   by_cases c10 : t170 = true
   ·subst c10
    have H1 : (some 0) = some r := by rw [if_pos rfl] at H; exact H
    clear H
    have H := H1
    clear H1
    obtain rfl := Option.some.inj H
    go_enter Try.func20, Try.ntmps20
    go_wp2_with (first | ((with_reducible refine gate_dst (N := 1) rfl ?_); refine boxev (N := 1) (cs := #[.string a0_0, .slice A0_1 l0_1.length c0_1, .slice A0_2 l0_2.length c0_2, .slice A0_3 l0_3.length c0_3, .int .i64 a0_4, .int .i64 a0_5]) (t := 26) ?_; intro gb167 hg w11 hbox hb; have BK167 := Aside0.mk (hbox); have GW167 := Aside0.mk ((by rw [hg]; exact bsz : w.heap.size ≤ gb167)); have GE167 := Aside0.mk ((by rw [hg]; exact bsz : w.heap.size ≤ gb167)); replace HB := Aside0.mk (bstep hb); clear hb hbox hg; obtain ⟨z12_0, z12_1, z12_2, z12_3, z12_4, z12_5, y12_0, y12_1, y12_2, y12_3, y12_4, y12_5⟩ := cells6 BK167.out) | ((with_reducible refine gate_callee (f := 39) rfl ?_); refine goesL_ (some 5) rfl rfl Try.func39 (by kernel_rfl) rfl #[.agg #[.string a0_0, .slice A0_1 l0_1.length c0_1, .slice A0_2 l0_2.length c0_2, .slice A0_3 l0_3.length c0_3, .int .i64 a0_4, .int .i64 a0_5]] rfl mpE ?_; (with_reducible refine (ocode_large.calls k a0_0 _ _ l0_1 _ _ l0_2 _ _ l0_3 a0_4 a0_5 false _ ?side1 ?side2 ?side3 ?side4 ?side5 ?side6 A2.out).mono ?_); (case side1 => exact kcb HR0_1.out); (case side2 => exact HC0_1.out); (case side3 => exact kcb HR0_2.out); (case side4 => exact HC0_2.out); (case side5 => exact kcb HR0_3.out); (case side6 => exact HC0_3.out); rintro e w13 ⟨rfl, hb⟩; refine ⟨_, rfl, ?_⟩; replace BK167 := Aside0.mk (bkb (g := gb167) hb); replace HB := Aside0.mk (bstep hb); (try clear hb); obtain ⟨z14_0, z14_1, z14_2, z14_3, z14_4, z14_5, y14_0, y14_1, y14_2, y14_3, y14_4, y14_5⟩ := cells6 BK167.out) | ((with_reducible refine gate_callee (f := 40) rfl ?_); refine goesL_ (some 8) rfl rfl Try.func40 (by kernel_rfl) rfl #[.agg #[.string a0_0, .slice A0_1 l0_1.length c0_1, .slice A0_2 l0_2.length c0_2, .slice A0_3 l0_3.length c0_3, .int .i64 a0_4, .int .i64 a0_5]] rfl mpE ?_; (with_reducible refine (ocode_coded.calls a0_0 _ _ l0_1 _ _ l0_2 _ _ l0_3 a0_4 a0_5 true _ ?side1 ?side2 ?side3 ?side4 ?side5 ?side6 A7.out).mono ?_); (case side1 => exact kcb HR0_1.out); (case side2 => exact HC0_1.out); (case side3 => exact kcb HR0_2.out); (case side4 => exact HC0_2.out); (case side5 => exact kcb HR0_3.out); (case side6 => exact HC0_3.out); rintro e w15 ⟨rfl, hb⟩; refine ⟨_, rfl, ?_⟩; replace BK167 := Aside0.mk (bkb (g := gb167) hb); replace HB := Aside0.mk (bstep hb); (try clear hb); obtain ⟨z16_0, z16_1, z16_2, z16_3, z16_4, z16_5, y16_0, y16_1, y16_2, y16_3, y16_4, y16_5⟩ := cells6 BK167.out) | ((with_reducible refine gate_callee (f := 41) rfl ?_); refine goesL_ (some 12) rfl rfl Try.func41 (by kernel_rfl) rfl #[.agg #[.string a0_0, .slice A0_1 l0_1.length c0_1, .slice A0_2 l0_2.length c0_2, .slice A0_3 l0_3.length c0_3, .int .i64 a0_4, .int .i64 a0_5]] rfl mpE ?_; (with_reducible refine (ocode_stacked.calls a0_0 _ _ l0_1 _ _ l0_2 _ _ l0_3 a0_4 a0_5 true _ ?side1 ?side2 ?side3 ?side4 ?side5 ?side6 A9.out).mono ?_); (case side1 => exact kcb HR0_1.out); (case side2 => exact HC0_1.out); (case side3 => exact kcb HR0_2.out); (case side4 => exact HC0_2.out); (case side5 => exact kcb HR0_3.out); (case side6 => exact HC0_3.out); rintro e w17 ⟨rfl, hb⟩; refine ⟨_, rfl, ?_⟩; replace BK167 := Aside0.mk (bkb (g := gb167) hb); replace HB := Aside0.mk (bstep hb); (try clear hb)))
    go_ret
    exact ⟨erE, bw⟩
   ·replace c10 := Bool.eq_false_iff.mpr c10
    subst c10
    have H1 : (some 61) = some r := by rw [if_neg (show ¬ (false = true) by decide)] at H; exact H
    clear H
    have H := H1
    clear H1
    obtain rfl := Option.some.inj H
    go_enter Try.func20, Try.ntmps20
    go_wp2_with (first | ((with_reducible refine gate_dst (N := 1) rfl ?_); refine boxev (N := 1) (cs := #[.string a0_0, .slice A0_1 l0_1.length c0_1, .slice A0_2 l0_2.length c0_2, .slice A0_3 l0_3.length c0_3, .int .i64 a0_4, .int .i64 a0_5]) (t := 26) ?_; intro gb167 hg w18 hbox hb; have BK167 := Aside0.mk (hbox); have GW167 := Aside0.mk ((by rw [hg]; exact bsz : w.heap.size ≤ gb167)); have GE167 := Aside0.mk ((by rw [hg]; exact bsz : w.heap.size ≤ gb167)); replace HB := Aside0.mk (bstep hb); clear hb hbox hg; obtain ⟨z19_0, z19_1, z19_2, z19_3, z19_4, z19_5, y19_0, y19_1, y19_2, y19_3, y19_4, y19_5⟩ := cells6 BK167.out) | ((with_reducible refine gate_callee (f := 39) rfl ?_); refine goesL_ (some 5) rfl rfl Try.func39 (by kernel_rfl) rfl #[.agg #[.string a0_0, .slice A0_1 l0_1.length c0_1, .slice A0_2 l0_2.length c0_2, .slice A0_3 l0_3.length c0_3, .int .i64 a0_4, .int .i64 a0_5]] rfl mpE ?_; (with_reducible refine (ocode_large.calls k a0_0 _ _ l0_1 _ _ l0_2 _ _ l0_3 a0_4 a0_5 false _ ?side1 ?side2 ?side3 ?side4 ?side5 ?side6 A2.out).mono ?_); (case side1 => exact kcb HR0_1.out); (case side2 => exact HC0_1.out); (case side3 => exact kcb HR0_2.out); (case side4 => exact HC0_2.out); (case side5 => exact kcb HR0_3.out); (case side6 => exact HC0_3.out); rintro e w20 ⟨rfl, hb⟩; refine ⟨_, rfl, ?_⟩; replace BK167 := Aside0.mk (bkb (g := gb167) hb); replace HB := Aside0.mk (bstep hb); (try clear hb); obtain ⟨z21_0, z21_1, z21_2, z21_3, z21_4, z21_5, y21_0, y21_1, y21_2, y21_3, y21_4, y21_5⟩ := cells6 BK167.out) | ((with_reducible refine gate_callee (f := 40) rfl ?_); refine goesL_ (some 8) rfl rfl Try.func40 (by kernel_rfl) rfl #[.agg #[.string a0_0, .slice A0_1 l0_1.length c0_1, .slice A0_2 l0_2.length c0_2, .slice A0_3 l0_3.length c0_3, .int .i64 a0_4, .int .i64 a0_5]] rfl mpE ?_; (with_reducible refine (ocode_coded.calls a0_0 _ _ l0_1 _ _ l0_2 _ _ l0_3 a0_4 a0_5 true _ ?side1 ?side2 ?side3 ?side4 ?side5 ?side6 A7.out).mono ?_); (case side1 => exact kcb HR0_1.out); (case side2 => exact HC0_1.out); (case side3 => exact kcb HR0_2.out); (case side4 => exact HC0_2.out); (case side5 => exact kcb HR0_3.out); (case side6 => exact HC0_3.out); rintro e w22 ⟨rfl, hb⟩; refine ⟨_, rfl, ?_⟩; replace BK167 := Aside0.mk (bkb (g := gb167) hb); replace HB := Aside0.mk (bstep hb); (try clear hb); obtain ⟨z23_0, z23_1, z23_2, z23_3, z23_4, z23_5, y23_0, y23_1, y23_2, y23_3, y23_4, y23_5⟩ := cells6 BK167.out) | ((with_reducible refine gate_callee (f := 41) rfl ?_); refine goesL_ (some 12) rfl rfl Try.func41 (by kernel_rfl) rfl #[.agg #[.string a0_0, .slice A0_1 l0_1.length c0_1, .slice A0_2 l0_2.length c0_2, .slice A0_3 l0_3.length c0_3, .int .i64 a0_4, .int .i64 a0_5]] rfl mpE ?_; (with_reducible refine (ocode_stacked.calls a0_0 _ _ l0_1 _ _ l0_2 _ _ l0_3 a0_4 a0_5 false _ ?side1 ?side2 ?side3 ?side4 ?side5 ?side6 A9.out).mono ?_); (case side1 => exact kcb HR0_1.out); (case side2 => exact HC0_1.out); (case side3 => exact kcb HR0_2.out); (case side4 => exact HC0_2.out); (case side5 => exact kcb HR0_3.out); (case side6 => exact HC0_3.out); rintro e w24 ⟨rfl, hb⟩; refine ⟨_, rfl, ?_⟩; replace BK167 := Aside0.mk (bkb (g := gb167) hb); replace HB := Aside0.mk (bstep hb); (try clear hb)))
    go_ret
    exact ⟨erE, bw⟩
  ·replace c8 := Bool.eq_false_iff.mpr c8
   subst c8
   have H1 : (some 60) = some r := by rw [if_neg (show ¬ (false = true) by decide)] at H; exact H
   clear H
   have H := H1
   clear H1
   obtain rfl := Option.some.inj H
   go_enter Try.func20, Try.ntmps20
   go_wp2_with (first | ((with_reducible refine gate_dst (N := 1) rfl ?_); refine boxev (N := 1) (cs := #[.string a0_0, .slice A0_1 l0_1.length c0_1, .slice A0_2 l0_2.length c0_2, .slice A0_3 l0_3.length c0_3, .int .i64 a0_4, .int .i64 a0_5]) (t := 26) ?_; intro gb167 hg w25 hbox hb; have BK167 := Aside0.mk (hbox); have GW167 := Aside0.mk ((by rw [hg]; exact bsz : w.heap.size ≤ gb167)); have GE167 := Aside0.mk ((by rw [hg]; exact bsz : w.heap.size ≤ gb167)); replace HB := Aside0.mk (bstep hb); clear hb hbox hg; obtain ⟨z26_0, z26_1, z26_2, z26_3, z26_4, z26_5, y26_0, y26_1, y26_2, y26_3, y26_4, y26_5⟩ := cells6 BK167.out) | ((with_reducible refine gate_callee (f := 39) rfl ?_); refine goesL_ (some 5) rfl rfl Try.func39 (by kernel_rfl) rfl #[.agg #[.string a0_0, .slice A0_1 l0_1.length c0_1, .slice A0_2 l0_2.length c0_2, .slice A0_3 l0_3.length c0_3, .int .i64 a0_4, .int .i64 a0_5]] rfl mpE ?_; (with_reducible refine (ocode_large.calls k a0_0 _ _ l0_1 _ _ l0_2 _ _ l0_3 a0_4 a0_5 false _ ?side1 ?side2 ?side3 ?side4 ?side5 ?side6 A2.out).mono ?_); (case side1 => exact kcb HR0_1.out); (case side2 => exact HC0_1.out); (case side3 => exact kcb HR0_2.out); (case side4 => exact HC0_2.out); (case side5 => exact kcb HR0_3.out); (case side6 => exact HC0_3.out); rintro e w27 ⟨rfl, hb⟩; refine ⟨_, rfl, ?_⟩; replace BK167 := Aside0.mk (bkb (g := gb167) hb); replace HB := Aside0.mk (bstep hb); (try clear hb); obtain ⟨z28_0, z28_1, z28_2, z28_3, z28_4, z28_5, y28_0, y28_1, y28_2, y28_3, y28_4, y28_5⟩ := cells6 BK167.out) | ((with_reducible refine gate_callee (f := 40) rfl ?_); refine goesL_ (some 8) rfl rfl Try.func40 (by kernel_rfl) rfl #[.agg #[.string a0_0, .slice A0_1 l0_1.length c0_1, .slice A0_2 l0_2.length c0_2, .slice A0_3 l0_3.length c0_3, .int .i64 a0_4, .int .i64 a0_5]] rfl mpE ?_; (with_reducible refine (ocode_coded.calls a0_0 _ _ l0_1 _ _ l0_2 _ _ l0_3 a0_4 a0_5 false _ ?side1 ?side2 ?side3 ?side4 ?side5 ?side6 A7.out).mono ?_); (case side1 => exact kcb HR0_1.out); (case side2 => exact HC0_1.out); (case side3 => exact kcb HR0_2.out); (case side4 => exact HC0_2.out); (case side5 => exact kcb HR0_3.out); (case side6 => exact HC0_3.out); rintro e w29 ⟨rfl, hb⟩; refine ⟨_, rfl, ?_⟩; replace BK167 := Aside0.mk (bkb (g := gb167) hb); replace HB := Aside0.mk (bstep hb); (try clear hb)))
   go_ret
   exact ⟨erE, bw⟩


end Go.Proofs.Ytkmcanknbdaliaa.PO
