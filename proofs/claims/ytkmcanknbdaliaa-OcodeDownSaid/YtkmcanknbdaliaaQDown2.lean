/- Lemmas for the law, put together: contracts of the program's functions and what they answer, in plain words (part 2). -/
import Derived.Test.YtkmcanknbdaliaaQDown1
namespace Go.Proofs.Ytkmcanknbdaliaa.PO
open Go.RowKit Go.Proofs.YtkmcanknbdaliaaW.PrintWords Go.Proofs.YtkmcanknbdaliaaW.PrintLast Go.Proofs.YtkmcanknbdaliaaW.PrintMore
attribute [local go_sem] max2_int min2_int max_two min_two max_three min_three max_four min_four   -- for this text's walks alone
set_option linter.unusedVariables false
set_option linter.unusedSimpArgs false

/-! ### bluebellref06_After: function 21 -/
mutual
def bluebellref06_After.j0 : Nat → Int → Int → Bool → Int → Int → Int → Option (Int)
  | 0, _, _, _, _, _, _ => none
  | k + 1, x1, x6, x7, x327000, x327001, x327002 => if x7 = true then (some (wrap64 (x1 + 1))) else (if x6 = 3 then (bluebellref06_After.j1 k x1 x6 (x6 == 3) x327000 x327001 x327002) else (if x6 = 6 then (bluebellref06_After.j1 k x1 x6 (x6 == 6) x327000 x327001 x327002) else (if x6 = 9 then (bluebellref06_After.j1 k x1 x6 (x6 == 9) x327000 x327001 x327002) else (if x6 = 16 then (bluebellref06_After.j1 k x1 x6 (x6 == 16) x327000 x327001 x327002) else (if x6 = 14 then (bluebellref06_After.j1 k x1 x6 (x6 == 14) x327000 x327001 x327002) else (if x6 = 21 then (bluebellref06_After.j1 k x1 x6 (x6 == 21) x327000 x327001 x327002) else (if x6 = 22 then (bluebellref06_After.j1 k x1 x6 (x6 == 22) x327000 x327001 x327002) else (if x6 = 29 then (bluebellref06_After.j1 k x1 x6 (x6 == 29) x327000 x327001 x327002) else (if x6 = 25 then (bluebellref06_After.j1 k x1 x6 (x6 == 25) x327000 x327001 x327002) else (bluebellref06_After.j1 k x1 x6 (x6 == 27) x327000 x327001 x327002))))))))))
def bluebellref06_After.j1 : Nat → Int → Int → Bool → Int → Int → Int → Option (Int)
  | 0, _, _, _, _, _, _ => none
  | k + 1, x1, x6, x18, x327000, x327001, x327002 => if x18 = true then (some (wrap64 (x1 - 1))) else (if x6 = 13 then (some (wrap64 (x1 - 2))) else (if x6 = 15 then (some (wrap64 (x1 - 3))) else (if x6 = 18 then (some x327001) else (if x6 = 23 then (bluebellref06_After.j2 k x1 x6 (x6 == 23) x327000 x327001 x327002) else (bluebellref06_After.j2 k x1 x6 (x6 == 28) x327000 x327001 x327002)))))
def bluebellref06_After.j2 : Nat → Int → Int → Bool → Int → Int → Int → Option (Int)
  | 0, _, _, _, _, _, _ => none
  | k + 1, x1, x6, x43, x327000, x327001, x327002 => if x43 = true then (some (wrap64 (x327001 + 1))) else (if x6 = 24 then (some (wrap64 (2 + x327002))) else (some x1))
end
def bluebellref06_After.f (k : Nat) (a0_0 : Int) (a0_1 : Int) (a0_2 : Int) (a1 : Int) : Option (Int) := if a0_0 = 1 then (bluebellref06_After.j0 k a1 a0_0 (a0_0 == 1) a0_0 a0_1 a0_2) else (if a0_0 = 2 then (bluebellref06_After.j0 k a1 a0_0 (a0_0 == 2) a0_0 a0_1 a0_2) else (if a0_0 = 4 then (bluebellref06_After.j0 k a1 a0_0 (a0_0 == 4) a0_0 a0_1 a0_2) else (if a0_0 = 5 then (bluebellref06_After.j0 k a1 a0_0 (a0_0 == 5) a0_0 a0_1 a0_2) else (if a0_0 = 7 then (bluebellref06_After.j0 k a1 a0_0 (a0_0 == 7) a0_0 a0_1 a0_2) else (if a0_0 = 8 then (bluebellref06_After.j0 k a1 a0_0 (a0_0 == 8) a0_0 a0_1 a0_2) else (if a0_0 = 10 then (bluebellref06_After.j0 k a1 a0_0 (a0_0 == 10) a0_0 a0_1 a0_2) else (bluebellref06_After.j0 k a1 a0_0 (a0_0 == 11) a0_0 a0_1 a0_2)))))))
theorem bluebellref06_After.mono_l : ∀ k, (∀ y0 y1 y2 y3 y4 y5, LeO (bluebellref06_After.j0 k y0 y1 y2 y3 y4 y5) (bluebellref06_After.j0 (k + 1) y0 y1 y2 y3 y4 y5)) ∧ (∀ y0 y1 y2 y3 y4 y5, LeO (bluebellref06_After.j1 k y0 y1 y2 y3 y4 y5) (bluebellref06_After.j1 (k + 1) y0 y1 y2 y3 y4 y5)) ∧ (∀ y0 y1 y2 y3 y4 y5, LeO (bluebellref06_After.j2 k y0 y1 y2 y3 y4 y5) (bluebellref06_After.j2 (k + 1) y0 y1 y2 y3 y4 y5))
  | 0 => ⟨fun _ _ _ _ _ _ r h => by simp [bluebellref06_After.j0] at h, fun _ _ _ _ _ _ r h => by simp [bluebellref06_After.j1] at h, fun _ _ _ _ _ _ r h => by simp [bluebellref06_After.j2] at h⟩
  | k + 1 => by
    obtain ⟨ih0, ih1, ih2⟩ := bluebellref06_After.mono_l k
    refine ⟨?_, ?_, ?_⟩
    · intro y0 y1 y2 y3 y4 y5
      unfold bluebellref06_After.j0
      repeat' first
      | (with_reducible exact ih0 _ _ _ _ _ _)
      | (with_reducible exact ih1 _ _ _ _ _ _)
      | (with_reducible exact ih2 _ _ _ _ _ _)
      | (with_reducible exact LeO.refl _)
      | (with_reducible exact LeO.none _)
      | (with_reducible refine LeO.ite ?_ ?_)
      | (with_reducible refine LeO.bind ?_ (fun _ => ?_))
      | exact ih0 _ _ _ _ _ _
      | exact ih1 _ _ _ _ _ _
      | exact ih2 _ _ _ _ _ _
      | exact LeO.none _
      | refine LeO.ite ?_ ?_
      | refine LeO.bind ?_ (fun _ => ?_)
    · intro y0 y1 y2 y3 y4 y5
      unfold bluebellref06_After.j1
      repeat' first
      | (with_reducible exact ih0 _ _ _ _ _ _)
      | (with_reducible exact ih1 _ _ _ _ _ _)
      | (with_reducible exact ih2 _ _ _ _ _ _)
      | (with_reducible exact LeO.refl _)
      | (with_reducible exact LeO.none _)
      | (with_reducible refine LeO.ite ?_ ?_)
      | (with_reducible refine LeO.bind ?_ (fun _ => ?_))
      | exact ih0 _ _ _ _ _ _
      | exact ih1 _ _ _ _ _ _
      | exact ih2 _ _ _ _ _ _
      | exact LeO.none _
      | refine LeO.ite ?_ ?_
      | refine LeO.bind ?_ (fun _ => ?_)
    · intro y0 y1 y2 y3 y4 y5
      unfold bluebellref06_After.j2
      repeat' first
      | (with_reducible exact ih0 _ _ _ _ _ _)
      | (with_reducible exact ih1 _ _ _ _ _ _)
      | (with_reducible exact ih2 _ _ _ _ _ _)
      | (with_reducible exact LeO.refl _)
      | (with_reducible exact LeO.none _)
      | (with_reducible refine LeO.ite ?_ ?_)
      | (with_reducible refine LeO.bind ?_ (fun _ => ?_))
      | exact ih0 _ _ _ _ _ _
      | exact ih1 _ _ _ _ _ _
      | exact ih2 _ _ _ _ _ _
      | exact LeO.none _
      | refine LeO.ite ?_ ?_
      | refine LeO.bind ?_ (fun _ => ?_)
theorem bluebellref06_After.mono : ∀ a0 a1 a2 a3 k, LeO (bluebellref06_After.f k a0 a1 a2 a3) (bluebellref06_After.f (k + 1) a0 a1 a2 a3) := by
  intro a0 a1 a2 a3 k
  obtain ⟨ih0, ih1, ih2⟩ := bluebellref06_After.mono_l k
  unfold bluebellref06_After.f
  repeat' first
      | (with_reducible exact ih0 _ _ _ _ _ _)
      | (with_reducible exact ih1 _ _ _ _ _ _)
      | (with_reducible exact ih2 _ _ _ _ _ _)
      | (with_reducible exact LeO.refl _)
      | (with_reducible exact LeO.none _)
      | (with_reducible refine LeO.ite ?_ ?_)
      | (with_reducible refine LeO.bind ?_ (fun _ => ?_))
      | exact ih0 _ _ _ _ _ _
      | exact ih1 _ _ _ _ _ _
      | exact ih2 _ _ _ _ _ _
      | exact LeO.none _
      | refine LeO.ite ?_ ?_
      | refine LeO.bind ?_ (fun _ => ?_)
set_option maxHeartbeats 8000000 in
set_option maxRecDepth 100000 in
theorem bluebellref06_After.calls (k : Nat) (a0_0 : Int) (a0_1 : Int) (a0_2 : Int) (a1 : Int) (r : Int) (w : World) (h : bluebellref06_After.f k a0_0 a0_1 a0_2 a1 = some r) :
    Calls Try.prog 21 #[.agg #[.int .i64 a0_0, .int .i64 a0_1, .int .i64 a0_2], .int .i64 a1] w fun e w' => e = .returned (.int .i64 r) ∧ Below w.heap.size w w' := by
  have hu35 := Try.underlying35
  have HB := Aside0.mk (Below.refl w.heap.size w)
  have H : (if a0_0 = 1 then (bluebellref06_After.j0 k a1 a0_0 (a0_0 == 1) a0_0 a0_1 a0_2) else (if a0_0 = 2 then (bluebellref06_After.j0 k a1 a0_0 (a0_0 == 2) a0_0 a0_1 a0_2) else (if a0_0 = 4 then (bluebellref06_After.j0 k a1 a0_0 (a0_0 == 4) a0_0 a0_1 a0_2) else (if a0_0 = 5 then (bluebellref06_After.j0 k a1 a0_0 (a0_0 == 5) a0_0 a0_1 a0_2) else (if a0_0 = 7 then (bluebellref06_After.j0 k a1 a0_0 (a0_0 == 7) a0_0 a0_1 a0_2) else (if a0_0 = 8 then (bluebellref06_After.j0 k a1 a0_0 (a0_0 == 8) a0_0 a0_1 a0_2) else (if a0_0 = 10 then (bluebellref06_After.j0 k a1 a0_0 (a0_0 == 10) a0_0 a0_1 a0_2) else (bluebellref06_After.j0 k a1 a0_0 (a0_0 == 11) a0_0 a0_1 a0_2)))))))) = some r := h
  clear h
  have HC3 := Aside0.mk H
  clear H
  go_enter Try.func21, Try.ntmps21
  go_upto_if 7 with (first | ((with_reducible refine gate_dst (N := 2) rfl ?_); refine box_event ?hg (N := 2) ?hd (cs := #[.int .i64 a0_0, .int .i64 a0_1, .int .i64 a0_2]) (t := 35) ?hr ?_; (case hd => rfl); (case hg => rfl); (case hr => first | (go_simp; done) | (go_simp; rfl)); intro gb326 hg w4 hbox hb; have n0_ := Aside0.mk (below_step (by repeat (first | (with_reducible first | exact HB.out | apply below_alloc | apply pw_below_drewN | apply below_drew1) | exact HB.out)) hb); have n1_ := Aside0.mk (hbox); have n2_ := Aside0.mk ((by rw [hg]; exact (below_size (by repeat (first | (with_reducible first | exact HB.out | apply below_alloc | apply pw_below_drewN | apply below_drew1) | exact HB.out))) : w.heap.size ≤ gb326)); have n3_ := Aside0.mk ((by rw [hg]; exact (below_size (by repeat (first | (with_reducible first | exact HB.out | apply below_alloc | apply pw_below_drewN | apply below_drew1) | exact HB.out))) : w.heap.size ≤ gb326)); clear HB; have HB := n0_; have BK326 := n1_; have GW326 := n2_; have GE326 := n3_; clear n0_ n1_ n2_ n3_; clear hb hbox hg; have hcz5_0 : w4.cell? ⟨gb326, 0, none⟩ = some (.int .i64 a0_0) := (blk_cell BK326.out 0).trans rfl; have hcz5_1 : w4.cell? ⟨gb326, 1, none⟩ = some (.int .i64 a0_1) := (blk_cell BK326.out 1).trans rfl; have hcz5_2 : w4.cell? ⟨gb326, 2, none⟩ = some (.int .i64 a0_2) := (blk_cell BK326.out 2).trans rfl; have hfz5_0 := blk_frozen BK326.out 0; have hfz5_1 := blk_frozen BK326.out 1; have hfz5_2 := blk_frozen BK326.out 2))
  (try simp only [Act.put, List.setIfInBounds_toArray, List.set_cons_zero, List.set_cons_succ])
  go_cut [7] (fun v7 wc => ∃ (kq : Nat) (x7_2 : Bool), v7 = .bool x7_2 ∧ Aside0 (bluebellref06_After.j0 kq a1 a0_0 x7_2 a0_0 a0_1 a0_2 = some r) ∧ Aside0 (kq ≤ k) ∧ Aside0 (wc.heap[gb326]? = some (.cells #[.int .i64 a0_0, .int .i64 a0_1, .int .i64 a0_2] 35 (0, 0))) ∧ Aside0 (Below w.heap.size w wc))
  case first =>
    have H := HC3.out
    clear HC3
    by_cases c6 : a0_0 = 1
    · rw [if_pos c6] at H
      have c6b0 : (a0_0 == 1) = true := beq_iff_eq.mpr c6
      have c6b1 : (a0_0 != 1) = false := bne_eq_false_iff_eq.mpr c6
      clear c6
      (first | rw [c6b0] | (simp only [i64_w, i32_w]; rw [c6b0]) | skip)
      have H' := Aside0.mk H
      clear H
      go_wp2
      (first | go_meet | (refine Met.intro ?_; go_step; (repeat apply Exists.intro); refine ⟨?rel, ?fr_⟩; (case fr_ => first | (simp only [c6b1, c6b0]; done) | (simp only [c6b1, c6b0]; rfl) | (simp only [c6b1, c6b0]; rfl))))
      case rel => exact ⟨_, ((a0_0 == 1)), (by first | rfl | (simp; done) | (simp [*]; done)), H', ⟨by first | omega | exact Nat.le_refl _⟩, ⟨by (with_reducible repeat (first | refine blk_drewN ?_ _ | refine blk_drew ?_ | refine blk_alloc ?_ _)); exact BK326.out⟩, ⟨by repeat (first | (with_reducible first | exact HB.out | apply below_alloc | apply pw_below_drewN | apply below_drew1 | refine below_set ?_ GE326.out) | exact HB.out)⟩⟩
    · rw [if_neg c6] at H
      have c6b0 : (a0_0 == 1) = false := beq_eq_false_iff_ne.mpr c6
      have c6b1 : (a0_0 != 1) = true := bne_iff_ne.mpr c6
      (first | rw [c6b0] | (simp only [i64_w, i32_w]; rw [c6b0]) | skip)
      by_cases c7 : a0_0 = 2
      · rw [if_pos c7] at H
        have c7b0 : (a0_0 == 2) = true := beq_iff_eq.mpr c7
        have c7b1 : (a0_0 != 2) = false := bne_eq_false_iff_eq.mpr c7
        clear c7
        have H' := Aside0.mk H
        clear H
        go_wp2
        (first | go_meet | (refine Met.intro ?_; go_step; (repeat apply Exists.intro); refine ⟨?rel, ?fr_⟩; (case fr_ => first | (simp only [c7b1, c7b0, c6b1, c6b0]; done) | (simp only [c7b1, c7b0, c6b1, c6b0]; rfl) | (simp only [c7b1, c7b0, c6b1, c6b0]; rfl))))
        case rel => exact ⟨_, ((a0_0 == 2)), (by first | rfl | (simp; done) | (simp [*]; done)), H', ⟨by first | omega | exact Nat.le_refl _⟩, ⟨by (with_reducible repeat (first | refine blk_drewN ?_ _ | refine blk_drew ?_ | refine blk_alloc ?_ _)); exact BK326.out⟩, ⟨by repeat (first | (with_reducible first | exact HB.out | apply below_alloc | apply pw_below_drewN | apply below_drew1 | refine below_set ?_ GE326.out) | exact HB.out)⟩⟩
      · rw [if_neg c7] at H
        have c7b0 : (a0_0 == 2) = false := beq_eq_false_iff_ne.mpr c7
        have c7b1 : (a0_0 != 2) = true := bne_iff_ne.mpr c7
        by_cases c8 : a0_0 = 4
        · rw [if_pos c8] at H
          have c8b0 : (a0_0 == 4) = true := beq_iff_eq.mpr c8
          have c8b1 : (a0_0 != 4) = false := bne_eq_false_iff_eq.mpr c8
          clear c8
          have H' := Aside0.mk H
          clear H
          go_wp2
          (first | go_meet | (refine Met.intro ?_; go_step; (repeat apply Exists.intro); refine ⟨?rel, ?fr_⟩; (case fr_ => first | (simp only [c8b1, c8b0, c7b1, c7b0, c6b1, c6b0]; done) | (simp only [c8b1, c8b0, c7b1, c7b0, c6b1, c6b0]; rfl) | (simp only [c8b1, c8b0, c7b1, c7b0, c6b1, c6b0]; rfl))))
          case rel => exact ⟨_, ((a0_0 == 4)), (by first | rfl | (simp; done) | (simp [*]; done)), H', ⟨by first | omega | exact Nat.le_refl _⟩, ⟨by (with_reducible repeat (first | refine blk_drewN ?_ _ | refine blk_drew ?_ | refine blk_alloc ?_ _)); exact BK326.out⟩, ⟨by repeat (first | (with_reducible first | exact HB.out | apply below_alloc | apply pw_below_drewN | apply below_drew1 | refine below_set ?_ GE326.out) | exact HB.out)⟩⟩
        · rw [if_neg c8] at H
          have c8b0 : (a0_0 == 4) = false := beq_eq_false_iff_ne.mpr c8
          have c8b1 : (a0_0 != 4) = true := bne_iff_ne.mpr c8
          by_cases c9 : a0_0 = 5
          · rw [if_pos c9] at H
            have c9b0 : (a0_0 == 5) = true := beq_iff_eq.mpr c9
            have c9b1 : (a0_0 != 5) = false := bne_eq_false_iff_eq.mpr c9
            clear c9
            have H' := Aside0.mk H
            clear H
            go_wp2
            (first | go_meet | (refine Met.intro ?_; go_step; (repeat apply Exists.intro); refine ⟨?rel, ?fr_⟩; (case fr_ => first | (simp only [c9b1, c9b0, c8b1, c8b0, c7b1, c7b0, c6b1, c6b0]; done) | (simp only [c9b1, c9b0, c8b1, c8b0, c7b1, c7b0, c6b1, c6b0]; rfl) | (simp only [c9b1, c9b0, c8b1, c8b0, c7b1, c7b0, c6b1, c6b0]; rfl))))
            case rel => exact ⟨_, ((a0_0 == 5)), (by first | rfl | (simp; done) | (simp [*]; done)), H', ⟨by first | omega | exact Nat.le_refl _⟩, ⟨by (with_reducible repeat (first | refine blk_drewN ?_ _ | refine blk_drew ?_ | refine blk_alloc ?_ _)); exact BK326.out⟩, ⟨by repeat (first | (with_reducible first | exact HB.out | apply below_alloc | apply pw_below_drewN | apply below_drew1 | refine below_set ?_ GE326.out) | exact HB.out)⟩⟩
          · rw [if_neg c9] at H
            have c9b0 : (a0_0 == 5) = false := beq_eq_false_iff_ne.mpr c9
            have c9b1 : (a0_0 != 5) = true := bne_iff_ne.mpr c9
            by_cases c10 : a0_0 = 7
            · rw [if_pos c10] at H
              have c10b0 : (a0_0 == 7) = true := beq_iff_eq.mpr c10
              have c10b1 : (a0_0 != 7) = false := bne_eq_false_iff_eq.mpr c10
              clear c10
              have H' := Aside0.mk H
              clear H
              go_wp2
              (first | go_meet | (refine Met.intro ?_; go_step; (repeat apply Exists.intro); refine ⟨?rel, ?fr_⟩; (case fr_ => first | (simp only [c10b1, c10b0, c9b1, c9b0, c8b1, c8b0, c7b1, c7b0, c6b1, c6b0]; done) | (simp only [c10b1, c10b0, c9b1, c9b0, c8b1, c8b0, c7b1, c7b0, c6b1, c6b0]; rfl) | (simp only [c10b1, c10b0, c9b1, c9b0, c8b1, c8b0, c7b1, c7b0, c6b1, c6b0]; rfl))))
              case rel => exact ⟨_, ((a0_0 == 7)), (by first | rfl | (simp; done) | (simp [*]; done)), H', ⟨by first | omega | exact Nat.le_refl _⟩, ⟨by (with_reducible repeat (first | refine blk_drewN ?_ _ | refine blk_drew ?_ | refine blk_alloc ?_ _)); exact BK326.out⟩, ⟨by repeat (first | (with_reducible first | exact HB.out | apply below_alloc | apply pw_below_drewN | apply below_drew1 | refine below_set ?_ GE326.out) | exact HB.out)⟩⟩
            · rw [if_neg c10] at H
              have c10b0 : (a0_0 == 7) = false := beq_eq_false_iff_ne.mpr c10
              have c10b1 : (a0_0 != 7) = true := bne_iff_ne.mpr c10
              by_cases c11 : a0_0 = 8
              · rw [if_pos c11] at H
                have c11b0 : (a0_0 == 8) = true := beq_iff_eq.mpr c11
                have c11b1 : (a0_0 != 8) = false := bne_eq_false_iff_eq.mpr c11
                clear c11
                have H' := Aside0.mk H
                clear H
                go_wp2
                (first | go_meet | (refine Met.intro ?_; go_step; (repeat apply Exists.intro); refine ⟨?rel, ?fr_⟩; (case fr_ => first | (simp only [c11b1, c11b0, c10b1, c10b0, c9b1, c9b0, c8b1, c8b0, c7b1, c7b0, c6b1, c6b0]; done) | (simp only [c11b1, c11b0, c10b1, c10b0, c9b1, c9b0, c8b1, c8b0, c7b1, c7b0, c6b1, c6b0]; rfl) | (simp only [c11b1, c11b0, c10b1, c10b0, c9b1, c9b0, c8b1, c8b0, c7b1, c7b0, c6b1, c6b0]; rfl))))
                case rel => exact ⟨_, ((a0_0 == 8)), (by first | rfl | (simp; done) | (simp [*]; done)), H', ⟨by first | omega | exact Nat.le_refl _⟩, ⟨by (with_reducible repeat (first | refine blk_drewN ?_ _ | refine blk_drew ?_ | refine blk_alloc ?_ _)); exact BK326.out⟩, ⟨by repeat (first | (with_reducible first | exact HB.out | apply below_alloc | apply pw_below_drewN | apply below_drew1 | refine below_set ?_ GE326.out) | exact HB.out)⟩⟩
              · rw [if_neg c11] at H
                have c11b0 : (a0_0 == 8) = false := beq_eq_false_iff_ne.mpr c11
                have c11b1 : (a0_0 != 8) = true := bne_iff_ne.mpr c11
                by_cases c12 : a0_0 = 10
                · rw [if_pos c12] at H
                  have c12b0 : (a0_0 == 10) = true := beq_iff_eq.mpr c12
                  have c12b1 : (a0_0 != 10) = false := bne_eq_false_iff_eq.mpr c12
                  clear c12
                  have H' := Aside0.mk H
                  clear H
                  go_wp2
                  (first | go_meet | (refine Met.intro ?_; go_step; (repeat apply Exists.intro); refine ⟨?rel, ?fr_⟩; (case fr_ => first | (simp only [c12b1, c12b0, c11b1, c11b0, c10b1, c10b0, c9b1, c9b0, c8b1, c8b0, c7b1, c7b0, c6b1, c6b0]; done) | (simp only [c12b1, c12b0, c11b1, c11b0, c10b1, c10b0, c9b1, c9b0, c8b1, c8b0, c7b1, c7b0, c6b1, c6b0]; rfl) | (simp only [c12b1, c12b0, c11b1, c11b0, c10b1, c10b0, c9b1, c9b0, c8b1, c8b0, c7b1, c7b0, c6b1, c6b0]; rfl))))
                  case rel => exact ⟨_, ((a0_0 == 10)), (by first | rfl | (simp; done) | (simp [*]; done)), H', ⟨by first | omega | exact Nat.le_refl _⟩, ⟨by (with_reducible repeat (first | refine blk_drewN ?_ _ | refine blk_drew ?_ | refine blk_alloc ?_ _)); exact BK326.out⟩, ⟨by repeat (first | (with_reducible first | exact HB.out | apply below_alloc | apply pw_below_drewN | apply below_drew1 | refine below_set ?_ GE326.out) | exact HB.out)⟩⟩
                · rw [if_neg c12] at H
                  have c12b0 : (a0_0 == 10) = false := beq_eq_false_iff_ne.mpr c12
                  have c12b1 : (a0_0 != 10) = true := bne_iff_ne.mpr c12
                  have H' := Aside0.mk H
                  clear H
                  go_wp2
                  (first | go_meet | (refine Met.intro ?_; go_step; (repeat apply Exists.intro); refine ⟨?rel, ?fr_⟩; (case fr_ => first | (simp only [c12b1, c12b0, c11b1, c11b0, c10b1, c10b0, c9b1, c9b0, c8b1, c8b0, c7b1, c7b0, c6b1, c6b0]; done) | (simp only [c12b1, c12b0, c11b1, c11b0, c10b1, c10b0, c9b1, c9b0, c8b1, c8b0, c7b1, c7b0, c6b1, c6b0]; rfl) | (simp only [c12b1, c12b0, c11b1, c11b0, c10b1, c10b0, c9b1, c9b0, c8b1, c8b0, c7b1, c7b0, c6b1, c6b0]; rfl))))
                  case rel => exact ⟨_, ((a0_0 == 11)), (by first | rfl | (simp; done) | (simp [*]; done)), H', ⟨by first | omega | exact Nat.le_refl _⟩, ⟨by (with_reducible repeat (first | refine blk_drewN ?_ _ | refine blk_drew ?_ | refine blk_alloc ?_ _)); exact BK326.out⟩, ⟨by repeat (first | (with_reducible first | exact HB.out | apply below_alloc | apply pw_below_drewN | apply below_drew1 | refine below_set ?_ GE326.out) | exact HB.out)⟩⟩
  case rest =>
    clear HC3
    try clear c1
    try clear c2
    try clear p2
    try clear c6
    try clear c6b0
    try clear c6b1
    try clear c7
    try clear c7b0
    try clear c7b1
    try clear c8
    try clear c8b0
    try clear c8b1
    try clear c9
    try clear c9b0
    try clear c9b1
    try clear c10
    try clear c10b0
    try clear c10b1
    try clear c11
    try clear c11b0
    try clear c11b1
    try clear c12
    try clear c12b0
    try clear c12b1
    try clear hcz5_0
    try clear hcz5_1
    try clear hcz5_2
    try clear hfz5_0
    try clear hfz5_1
    try clear hfz5_2
    obtain ⟨kq, x7_2, rfl, HA, HJ2, BK326, HB⟩ := hcut
    cases kq with
    | zero => exact absurd HA.out (by simp [bluebellref06_After.j0])
    | succ kj2 =>
      have H := HA.out
      clear HA
      simp only [bluebellref06_After.j0] at H
      by_cases c13 : x7_2 = true
      · subst c13
        have H1 : (some (wrap64 (a1 + 1))) = some r := by rw [if_pos rfl] at H; exact H
        clear H
        have H := H1
        clear H1
        obtain rfl := Option.some.inj H
        go_wp2
        go_ret
        exact ⟨by first | rfl | (simp [errW_none, errW_some] <;> rfl) | (simp [*, errW_none, errW_some] <;> rfl), by repeat (first | (with_reducible first | exact HB.out | apply below_alloc | apply pw_below_drewN | apply below_drew1 | refine below_set ?_ GE326.out) | exact HB.out)⟩
      · replace c13 := Bool.eq_false_iff.mpr c13
        subst c13
        have H1 : (if a0_0 = 3 then (bluebellref06_After.j1 kj2 a1 a0_0 (a0_0 == 3) a0_0 a0_1 a0_2) else (if a0_0 = 6 then (bluebellref06_After.j1 kj2 a1 a0_0 (a0_0 == 6) a0_0 a0_1 a0_2) else (if a0_0 = 9 then (bluebellref06_After.j1 kj2 a1 a0_0 (a0_0 == 9) a0_0 a0_1 a0_2) else (if a0_0 = 16 then (bluebellref06_After.j1 kj2 a1 a0_0 (a0_0 == 16) a0_0 a0_1 a0_2) else (if a0_0 = 14 then (bluebellref06_After.j1 kj2 a1 a0_0 (a0_0 == 14) a0_0 a0_1 a0_2) else (if a0_0 = 21 then (bluebellref06_After.j1 kj2 a1 a0_0 (a0_0 == 21) a0_0 a0_1 a0_2) else (if a0_0 = 22 then (bluebellref06_After.j1 kj2 a1 a0_0 (a0_0 == 22) a0_0 a0_1 a0_2) else (if a0_0 = 29 then (bluebellref06_After.j1 kj2 a1 a0_0 (a0_0 == 29) a0_0 a0_1 a0_2) else (if a0_0 = 25 then (bluebellref06_After.j1 kj2 a1 a0_0 (a0_0 == 25) a0_0 a0_1 a0_2) else (bluebellref06_After.j1 kj2 a1 a0_0 (a0_0 == 27) a0_0 a0_1 a0_2)))))))))) = some r := by rw [if_neg (show ¬ (false = true) by decide)] at H; exact H
        clear H
        have H := H1
        clear H1
        have HC14 := Aside0.mk H
        clear H
        go_upto_if 18 with (fail)
        go_cut [18] (fun v18 wc => ∃ (kq : Nat) (x18_13 : Bool), v18 = .bool x18_13 ∧ Aside0 (bluebellref06_After.j1 kq a1 a0_0 x18_13 a0_0 a0_1 a0_2 = some r) ∧ Aside0 (kq ≤ kj2) ∧ Aside0 (wc.heap[gb326]? = some (.cells #[.int .i64 a0_0, .int .i64 a0_1, .int .i64 a0_2] 35 (0, 0))) ∧ Aside0 (Below w.heap.size w wc))
        case first =>
          have H := HC14.out
          clear HC14
          by_cases c15 : a0_0 = 3
          · rw [if_pos c15] at H
            have c15b0 : (a0_0 == 3) = true := beq_iff_eq.mpr c15
            have c15b1 : (a0_0 != 3) = false := bne_eq_false_iff_eq.mpr c15
            clear c15
            (first | rw [c15b0] | (simp only [i64_w, i32_w]; rw [c15b0]) | skip)
            have H' := Aside0.mk H
            clear H
            go_wp2
            (first | go_meet | (refine Met.intro ?_; go_step; (repeat apply Exists.intro); refine ⟨?rel, ?fr_⟩; (case fr_ => first | (simp only [c15b1, c15b0]; done) | (simp only [c15b1, c15b0]; rfl) | (simp only [c15b1, c15b0]; rfl))))
            case rel => exact ⟨_, ((a0_0 == 3)), (by first | rfl | (simp; done) | (simp [*]; done)), H', ⟨by have := HJ2.out; first | omega | exact Nat.le_refl _⟩, ⟨by (with_reducible repeat (first | refine blk_drewN ?_ _ | refine blk_drew ?_ | refine blk_alloc ?_ _)); exact BK326.out⟩, ⟨by repeat (first | (with_reducible first | exact HB.out | apply below_alloc | apply pw_below_drewN | apply below_drew1 | refine below_set ?_ GE326.out) | exact HB.out)⟩⟩
          · rw [if_neg c15] at H
            have c15b0 : (a0_0 == 3) = false := beq_eq_false_iff_ne.mpr c15
            have c15b1 : (a0_0 != 3) = true := bne_iff_ne.mpr c15
            (first | rw [c15b0] | (simp only [i64_w, i32_w]; rw [c15b0]) | skip)
            by_cases c16 : a0_0 = 6
            · rw [if_pos c16] at H
              have c16b0 : (a0_0 == 6) = true := beq_iff_eq.mpr c16
              have c16b1 : (a0_0 != 6) = false := bne_eq_false_iff_eq.mpr c16
              clear c16
              have H' := Aside0.mk H
              clear H
              go_wp2
              (first | go_meet | (refine Met.intro ?_; go_step; (repeat apply Exists.intro); refine ⟨?rel, ?fr_⟩; (case fr_ => first | (simp only [c16b1, c16b0, c15b1, c15b0]; done) | (simp only [c16b1, c16b0, c15b1, c15b0]; rfl) | (simp only [c16b1, c16b0, c15b1, c15b0]; rfl))))
              case rel => exact ⟨_, ((a0_0 == 6)), (by first | rfl | (simp; done) | (simp [*]; done)), H', ⟨by have := HJ2.out; first | omega | exact Nat.le_refl _⟩, ⟨by (with_reducible repeat (first | refine blk_drewN ?_ _ | refine blk_drew ?_ | refine blk_alloc ?_ _)); exact BK326.out⟩, ⟨by repeat (first | (with_reducible first | exact HB.out | apply below_alloc | apply pw_below_drewN | apply below_drew1 | refine below_set ?_ GE326.out) | exact HB.out)⟩⟩
            · rw [if_neg c16] at H
              have c16b0 : (a0_0 == 6) = false := beq_eq_false_iff_ne.mpr c16
              have c16b1 : (a0_0 != 6) = true := bne_iff_ne.mpr c16
              by_cases c17 : a0_0 = 9
              · rw [if_pos c17] at H
                have c17b0 : (a0_0 == 9) = true := beq_iff_eq.mpr c17
                have c17b1 : (a0_0 != 9) = false := bne_eq_false_iff_eq.mpr c17
                clear c17
                have H' := Aside0.mk H
                clear H
                go_wp2
                (first | go_meet | (refine Met.intro ?_; go_step; (repeat apply Exists.intro); refine ⟨?rel, ?fr_⟩; (case fr_ => first | (simp only [c17b1, c17b0, c16b1, c16b0, c15b1, c15b0]; done) | (simp only [c17b1, c17b0, c16b1, c16b0, c15b1, c15b0]; rfl) | (simp only [c17b1, c17b0, c16b1, c16b0, c15b1, c15b0]; rfl))))
                case rel => exact ⟨_, ((a0_0 == 9)), (by first | rfl | (simp; done) | (simp [*]; done)), H', ⟨by have := HJ2.out; first | omega | exact Nat.le_refl _⟩, ⟨by (with_reducible repeat (first | refine blk_drewN ?_ _ | refine blk_drew ?_ | refine blk_alloc ?_ _)); exact BK326.out⟩, ⟨by repeat (first | (with_reducible first | exact HB.out | apply below_alloc | apply pw_below_drewN | apply below_drew1 | refine below_set ?_ GE326.out) | exact HB.out)⟩⟩
              · rw [if_neg c17] at H
                have c17b0 : (a0_0 == 9) = false := beq_eq_false_iff_ne.mpr c17
                have c17b1 : (a0_0 != 9) = true := bne_iff_ne.mpr c17
                by_cases c18 : a0_0 = 16
                · rw [if_pos c18] at H
                  have c18b0 : (a0_0 == 16) = true := beq_iff_eq.mpr c18
                  have c18b1 : (a0_0 != 16) = false := bne_eq_false_iff_eq.mpr c18
                  clear c18
                  have H' := Aside0.mk H
                  clear H
                  go_wp2
                  (first | go_meet | (refine Met.intro ?_; go_step; (repeat apply Exists.intro); refine ⟨?rel, ?fr_⟩; (case fr_ => first | (simp only [c18b1, c18b0, c17b1, c17b0, c16b1, c16b0, c15b1, c15b0]; done) | (simp only [c18b1, c18b0, c17b1, c17b0, c16b1, c16b0, c15b1, c15b0]; rfl) | (simp only [c18b1, c18b0, c17b1, c17b0, c16b1, c16b0, c15b1, c15b0]; rfl))))
                  case rel => exact ⟨_, ((a0_0 == 16)), (by first | rfl | (simp; done) | (simp [*]; done)), H', ⟨by have := HJ2.out; first | omega | exact Nat.le_refl _⟩, ⟨by (with_reducible repeat (first | refine blk_drewN ?_ _ | refine blk_drew ?_ | refine blk_alloc ?_ _)); exact BK326.out⟩, ⟨by repeat (first | (with_reducible first | exact HB.out | apply below_alloc | apply pw_below_drewN | apply below_drew1 | refine below_set ?_ GE326.out) | exact HB.out)⟩⟩
                · rw [if_neg c18] at H
                  have c18b0 : (a0_0 == 16) = false := beq_eq_false_iff_ne.mpr c18
                  have c18b1 : (a0_0 != 16) = true := bne_iff_ne.mpr c18
                  by_cases c19 : a0_0 = 14
                  · rw [if_pos c19] at H
                    have c19b0 : (a0_0 == 14) = true := beq_iff_eq.mpr c19
                    have c19b1 : (a0_0 != 14) = false := bne_eq_false_iff_eq.mpr c19
                    clear c19
                    have H' := Aside0.mk H
                    clear H
                    go_wp2
                    (first | go_meet | (refine Met.intro ?_; go_step; (repeat apply Exists.intro); refine ⟨?rel, ?fr_⟩; (case fr_ => first | (simp only [c19b1, c19b0, c18b1, c18b0, c17b1, c17b0, c16b1, c16b0, c15b1, c15b0]; done) | (simp only [c19b1, c19b0, c18b1, c18b0, c17b1, c17b0, c16b1, c16b0, c15b1, c15b0]; rfl) | (simp only [c19b1, c19b0, c18b1, c18b0, c17b1, c17b0, c16b1, c16b0, c15b1, c15b0]; rfl))))
                    case rel => exact ⟨_, ((a0_0 == 14)), (by first | rfl | (simp; done) | (simp [*]; done)), H', ⟨by have := HJ2.out; first | omega | exact Nat.le_refl _⟩, ⟨by (with_reducible repeat (first | refine blk_drewN ?_ _ | refine blk_drew ?_ | refine blk_alloc ?_ _)); exact BK326.out⟩, ⟨by repeat (first | (with_reducible first | exact HB.out | apply below_alloc | apply pw_below_drewN | apply below_drew1 | refine below_set ?_ GE326.out) | exact HB.out)⟩⟩
                  · rw [if_neg c19] at H
                    have c19b0 : (a0_0 == 14) = false := beq_eq_false_iff_ne.mpr c19
                    have c19b1 : (a0_0 != 14) = true := bne_iff_ne.mpr c19
                    by_cases c20 : a0_0 = 21
                    · rw [if_pos c20] at H
                      have c20b0 : (a0_0 == 21) = true := beq_iff_eq.mpr c20
                      have c20b1 : (a0_0 != 21) = false := bne_eq_false_iff_eq.mpr c20
                      clear c20
                      have H' := Aside0.mk H
                      clear H
                      go_wp2
                      (first | go_meet | (refine Met.intro ?_; go_step; (repeat apply Exists.intro); refine ⟨?rel, ?fr_⟩; (case fr_ => first | (simp only [c20b1, c20b0, c19b1, c19b0, c18b1, c18b0, c17b1, c17b0, c16b1, c16b0, c15b1, c15b0]; done) | (simp only [c20b1, c20b0, c19b1, c19b0, c18b1, c18b0, c17b1, c17b0, c16b1, c16b0, c15b1, c15b0]; rfl) | (simp only [c20b1, c20b0, c19b1, c19b0, c18b1, c18b0, c17b1, c17b0, c16b1, c16b0, c15b1, c15b0]; rfl))))
                      case rel => exact ⟨_, ((a0_0 == 21)), (by first | rfl | (simp; done) | (simp [*]; done)), H', ⟨by have := HJ2.out; first | omega | exact Nat.le_refl _⟩, ⟨by (with_reducible repeat (first | refine blk_drewN ?_ _ | refine blk_drew ?_ | refine blk_alloc ?_ _)); exact BK326.out⟩, ⟨by repeat (first | (with_reducible first | exact HB.out | apply below_alloc | apply pw_below_drewN | apply below_drew1 | refine below_set ?_ GE326.out) | exact HB.out)⟩⟩
                    · rw [if_neg c20] at H
                      have c20b0 : (a0_0 == 21) = false := beq_eq_false_iff_ne.mpr c20
                      have c20b1 : (a0_0 != 21) = true := bne_iff_ne.mpr c20
                      by_cases c21 : a0_0 = 22
                      · rw [if_pos c21] at H
                        have c21b0 : (a0_0 == 22) = true := beq_iff_eq.mpr c21
                        have c21b1 : (a0_0 != 22) = false := bne_eq_false_iff_eq.mpr c21
                        clear c21
                        have H' := Aside0.mk H
                        clear H
                        go_wp2
                        (first | go_meet | (refine Met.intro ?_; go_step; (repeat apply Exists.intro); refine ⟨?rel, ?fr_⟩; (case fr_ => first | (simp only [c21b1, c21b0, c20b1, c20b0, c19b1, c19b0, c18b1, c18b0, c17b1, c17b0, c16b1, c16b0, c15b1, c15b0]; done) | (simp only [c21b1, c21b0, c20b1, c20b0, c19b1, c19b0, c18b1, c18b0, c17b1, c17b0, c16b1, c16b0, c15b1, c15b0]; rfl) | (simp only [c21b1, c21b0, c20b1, c20b0, c19b1, c19b0, c18b1, c18b0, c17b1, c17b0, c16b1, c16b0, c15b1, c15b0]; rfl))))
                        case rel => exact ⟨_, ((a0_0 == 22)), (by first | rfl | (simp; done) | (simp [*]; done)), H', ⟨by have := HJ2.out; first | omega | exact Nat.le_refl _⟩, ⟨by (with_reducible repeat (first | refine blk_drewN ?_ _ | refine blk_drew ?_ | refine blk_alloc ?_ _)); exact BK326.out⟩, ⟨by repeat (first | (with_reducible first | exact HB.out | apply below_alloc | apply pw_below_drewN | apply below_drew1 | refine below_set ?_ GE326.out) | exact HB.out)⟩⟩
                      · rw [if_neg c21] at H
                        have c21b0 : (a0_0 == 22) = false := beq_eq_false_iff_ne.mpr c21
                        have c21b1 : (a0_0 != 22) = true := bne_iff_ne.mpr c21
                        by_cases c22 : a0_0 = 29
                        · rw [if_pos c22] at H
                          have c22b0 : (a0_0 == 29) = true := beq_iff_eq.mpr c22
                          have c22b1 : (a0_0 != 29) = false := bne_eq_false_iff_eq.mpr c22
                          clear c22
                          have H' := Aside0.mk H
                          clear H
                          go_wp2
                          (first | go_meet | (refine Met.intro ?_; go_step; (repeat apply Exists.intro); refine ⟨?rel, ?fr_⟩; (case fr_ => first | (simp only [c22b1, c22b0, c21b1, c21b0, c20b1, c20b0, c19b1, c19b0, c18b1, c18b0, c17b1, c17b0, c16b1, c16b0, c15b1, c15b0]; done) | (simp only [c22b1, c22b0, c21b1, c21b0, c20b1, c20b0, c19b1, c19b0, c18b1, c18b0, c17b1, c17b0, c16b1, c16b0, c15b1, c15b0]; rfl) | (simp only [c22b1, c22b0, c21b1, c21b0, c20b1, c20b0, c19b1, c19b0, c18b1, c18b0, c17b1, c17b0, c16b1, c16b0, c15b1, c15b0]; rfl))))
                          case rel => exact ⟨_, ((a0_0 == 29)), (by first | rfl | (simp; done) | (simp [*]; done)), H', ⟨by have := HJ2.out; first | omega | exact Nat.le_refl _⟩, ⟨by (with_reducible repeat (first | refine blk_drewN ?_ _ | refine blk_drew ?_ | refine blk_alloc ?_ _)); exact BK326.out⟩, ⟨by repeat (first | (with_reducible first | exact HB.out | apply below_alloc | apply pw_below_drewN | apply below_drew1 | refine below_set ?_ GE326.out) | exact HB.out)⟩⟩
                        · rw [if_neg c22] at H
                          have c22b0 : (a0_0 == 29) = false := beq_eq_false_iff_ne.mpr c22
                          have c22b1 : (a0_0 != 29) = true := bne_iff_ne.mpr c22
                          by_cases c23 : a0_0 = 25
                          · rw [if_pos c23] at H
                            have c23b0 : (a0_0 == 25) = true := beq_iff_eq.mpr c23
                            have c23b1 : (a0_0 != 25) = false := bne_eq_false_iff_eq.mpr c23
                            clear c23
                            have H' := Aside0.mk H
                            clear H
                            go_wp2
                            (first | go_meet | (refine Met.intro ?_; go_step; (repeat apply Exists.intro); refine ⟨?rel, ?fr_⟩; (case fr_ => first | (simp only [c23b1, c23b0, c22b1, c22b0, c21b1, c21b0, c20b1, c20b0, c19b1, c19b0, c18b1, c18b0, c17b1, c17b0, c16b1, c16b0, c15b1, c15b0]; done) | (simp only [c23b1, c23b0, c22b1, c22b0, c21b1, c21b0, c20b1, c20b0, c19b1, c19b0, c18b1, c18b0, c17b1, c17b0, c16b1, c16b0, c15b1, c15b0]; rfl) | (simp only [c23b1, c23b0, c22b1, c22b0, c21b1, c21b0, c20b1, c20b0, c19b1, c19b0, c18b1, c18b0, c17b1, c17b0, c16b1, c16b0, c15b1, c15b0]; rfl))))
                            case rel => exact ⟨_, ((a0_0 == 25)), (by first | rfl | (simp; done) | (simp [*]; done)), H', ⟨by have := HJ2.out; first | omega | exact Nat.le_refl _⟩, ⟨by (with_reducible repeat (first | refine blk_drewN ?_ _ | refine blk_drew ?_ | refine blk_alloc ?_ _)); exact BK326.out⟩, ⟨by repeat (first | (with_reducible first | exact HB.out | apply below_alloc | apply pw_below_drewN | apply below_drew1 | refine below_set ?_ GE326.out) | exact HB.out)⟩⟩
                          · rw [if_neg c23] at H
                            have c23b0 : (a0_0 == 25) = false := beq_eq_false_iff_ne.mpr c23
                            have c23b1 : (a0_0 != 25) = true := bne_iff_ne.mpr c23
                            have H' := Aside0.mk H
                            clear H
                            go_wp2
                            (first | go_meet | (refine Met.intro ?_; go_step; (repeat apply Exists.intro); refine ⟨?rel, ?fr_⟩; (case fr_ => first | (simp only [c23b1, c23b0, c22b1, c22b0, c21b1, c21b0, c20b1, c20b0, c19b1, c19b0, c18b1, c18b0, c17b1, c17b0, c16b1, c16b0, c15b1, c15b0]; done) | (simp only [c23b1, c23b0, c22b1, c22b0, c21b1, c21b0, c20b1, c20b0, c19b1, c19b0, c18b1, c18b0, c17b1, c17b0, c16b1, c16b0, c15b1, c15b0]; rfl) | (simp only [c23b1, c23b0, c22b1, c22b0, c21b1, c21b0, c20b1, c20b0, c19b1, c19b0, c18b1, c18b0, c17b1, c17b0, c16b1, c16b0, c15b1, c15b0]; rfl))))
                            case rel => exact ⟨_, ((a0_0 == 27)), (by first | rfl | (simp; done) | (simp [*]; done)), H', ⟨by have := HJ2.out; first | omega | exact Nat.le_refl _⟩, ⟨by (with_reducible repeat (first | refine blk_drewN ?_ _ | refine blk_drew ?_ | refine blk_alloc ?_ _)); exact BK326.out⟩, ⟨by repeat (first | (with_reducible first | exact HB.out | apply below_alloc | apply pw_below_drewN | apply below_drew1 | refine below_set ?_ GE326.out) | exact HB.out)⟩⟩
        case rest =>
          clear HC14
          try clear c1
          try clear c2
          try clear p2
          try clear c6
          try clear c6b0
          try clear c6b1
          try clear p6
          try clear c7
          try clear c7b0
          try clear c7b1
          try clear c8
          try clear c8b0
          try clear c8b1
          try clear c9
          try clear c9b0
          try clear c9b1
          try clear c10
          try clear c10b0
          try clear c10b1
          try clear c11
          try clear c11b0
          try clear c11b1
          try clear c12
          try clear c12b0
          try clear c12b1
          try clear c13
          try clear c15
          try clear c15b0
          try clear c15b1
          try clear c16
          try clear c16b0
          try clear c16b1
          try clear c17
          try clear c17b0
          try clear c17b1
          try clear c18
          try clear c18b0
          try clear c18b1
          try clear c19
          try clear c19b0
          try clear c19b1
          try clear c20
          try clear c20b0
          try clear c20b1
          try clear c21
          try clear c21b0
          try clear c21b1
          try clear c22
          try clear c22b0
          try clear c22b1
          try clear c23
          try clear c23b0
          try clear c23b1
          try clear hcz5_0
          try clear hcz5_1
          try clear hcz5_2
          try clear hfz5_0
          try clear hfz5_1
          try clear hfz5_2
          try clear p2
          obtain ⟨kq, x18_13, rfl, HA, HJ13, BK326, HB⟩ := hcut
          cases kq with
          | zero => exact absurd HA.out (by simp [bluebellref06_After.j1])
          | succ kj13 =>
            have H := HA.out
            clear HA
            simp only [bluebellref06_After.j1] at H
            by_cases c24 : x18_13 = true
            · subst c24
              have H1 : (some (wrap64 (a1 - 1))) = some r := by rw [if_pos rfl] at H; exact H
              clear H
              have H := H1
              clear H1
              obtain rfl := Option.some.inj H
              go_wp2
              go_ret
              exact ⟨by first | rfl | (simp [errW_none, errW_some] <;> rfl) | (simp [*, errW_none, errW_some] <;> rfl), by repeat (first | (with_reducible first | exact HB.out | apply below_alloc | apply pw_below_drewN | apply below_drew1 | refine below_set ?_ GE326.out) | exact HB.out)⟩
            · replace c24 := Bool.eq_false_iff.mpr c24
              subst c24
              have H1 : (if a0_0 = 13 then (some (wrap64 (a1 - 2))) else (if a0_0 = 15 then (some (wrap64 (a1 - 3))) else (if a0_0 = 18 then (some a0_1) else (if a0_0 = 23 then (bluebellref06_After.j2 kj13 a1 a0_0 (a0_0 == 23) a0_0 a0_1 a0_2) else (bluebellref06_After.j2 kj13 a1 a0_0 (a0_0 == 28) a0_0 a0_1 a0_2))))) = some r := by rw [if_neg (show ¬ (false = true) by decide)] at H; exact H
              clear H
              have H := H1
              clear H1
              by_cases c25 : a0_0 = 13
              · rw [if_pos c25] at H
                have c25b0 : (a0_0 == 13) = true := beq_iff_eq.mpr c25
                have c25b1 : (a0_0 != 13) = false := bne_eq_false_iff_eq.mpr c25
                clear c25
                obtain rfl := Option.some.inj H
                go_wp2
                go_ret
                exact ⟨by first | rfl | (simp [errW_none, errW_some] <;> rfl) | (simp [*, errW_none, errW_some] <;> rfl), by repeat (first | (with_reducible first | exact HB.out | apply below_alloc | apply pw_below_drewN | apply below_drew1 | refine below_set ?_ GE326.out) | exact HB.out)⟩
              · rw [if_neg c25] at H
                have c25b0 : (a0_0 == 13) = false := beq_eq_false_iff_ne.mpr c25
                have c25b1 : (a0_0 != 13) = true := bne_iff_ne.mpr c25
                by_cases c26 : a0_0 = 15
                · rw [if_pos c26] at H
                  have c26b0 : (a0_0 == 15) = true := beq_iff_eq.mpr c26
                  have c26b1 : (a0_0 != 15) = false := bne_eq_false_iff_eq.mpr c26
                  clear c26
                  obtain rfl := Option.some.inj H
                  go_wp2
                  go_ret
                  exact ⟨by first | rfl | (simp [errW_none, errW_some] <;> rfl) | (simp [*, errW_none, errW_some] <;> rfl), by repeat (first | (with_reducible first | exact HB.out | apply below_alloc | apply pw_below_drewN | apply below_drew1 | refine below_set ?_ GE326.out) | exact HB.out)⟩
                · rw [if_neg c26] at H
                  have c26b0 : (a0_0 == 15) = false := beq_eq_false_iff_ne.mpr c26
                  have c26b1 : (a0_0 != 15) = true := bne_iff_ne.mpr c26
                  by_cases c27 : a0_0 = 18
                  · rw [if_pos c27] at H
                    have c27b0 : (a0_0 == 18) = true := beq_iff_eq.mpr c27
                    have c27b1 : (a0_0 != 18) = false := bne_eq_false_iff_eq.mpr c27
                    clear c27
                    obtain rfl := Option.some.inj H
                    have hcz28_0 : wc.cell? ⟨gb326, 0, none⟩ = some (.int .i64 a0_0) := (blk_cell BK326.out 0).trans rfl
                    have hcz28_1 : wc.cell? ⟨gb326, 1, none⟩ = some (.int .i64 a0_1) := (blk_cell BK326.out 1).trans rfl
                    have hcz28_2 : wc.cell? ⟨gb326, 2, none⟩ = some (.int .i64 a0_2) := (blk_cell BK326.out 2).trans rfl
                    have hfz28_0 := blk_frozen BK326.out 0
                    have hfz28_1 := blk_frozen BK326.out 1
                    have hfz28_2 := blk_frozen BK326.out 2
                    go_wp2
                    go_ret
                    exact ⟨by first | rfl | (simp [errW_none, errW_some] <;> rfl) | (simp [*, errW_none, errW_some] <;> rfl), by repeat (first | (with_reducible first | exact HB.out | apply below_alloc | apply pw_below_drewN | apply below_drew1 | refine below_set ?_ GE326.out) | exact HB.out)⟩
                  · rw [if_neg c27] at H
                    have c27b0 : (a0_0 == 18) = false := beq_eq_false_iff_ne.mpr c27
                    have c27b1 : (a0_0 != 18) = true := bne_iff_ne.mpr c27
                    have HC29 := Aside0.mk H
                    clear H
                    go_upto_if 43 with (fail)
                    go_cut [43] (fun v43 wc => ∃ (kq : Nat) (x43_28 : Bool), v43 = .bool x43_28 ∧ Aside0 (bluebellref06_After.j2 kq a1 a0_0 x43_28 a0_0 a0_1 a0_2 = some r) ∧ Aside0 (kq ≤ kj13) ∧ Aside0 (wc.heap[gb326]? = some (.cells #[.int .i64 a0_0, .int .i64 a0_1, .int .i64 a0_2] 35 (0, 0))) ∧ Aside0 (Below w.heap.size w wc))
                    case first =>
                      have H := HC29.out
                      clear HC29
                      by_cases c30 : a0_0 = 23
                      · rw [if_pos c30] at H
                        have c30b0 : (a0_0 == 23) = true := beq_iff_eq.mpr c30
                        have c30b1 : (a0_0 != 23) = false := bne_eq_false_iff_eq.mpr c30
                        clear c30
                        (first | rw [c30b0] | (simp only [i64_w, i32_w]; rw [c30b0]) | skip)
                        have H' := Aside0.mk H
                        clear H
                        go_wp2
                        (first | go_meet | (refine Met.intro ?_; go_step; (repeat apply Exists.intro); refine ⟨?rel, ?fr_⟩; (case fr_ => first | (simp only [c30b1, c30b0]; done) | (simp only [c30b1, c30b0]; rfl) | (simp only [c30b1, c30b0]; rfl))))
                        case rel => exact ⟨_, ((a0_0 == 23)), (by first | rfl | (simp; done) | (simp [*]; done)), H', ⟨by have := HJ2.out; have := HJ13.out; first | omega | exact Nat.le_refl _⟩, ⟨by (with_reducible repeat (first | refine blk_drewN ?_ _ | refine blk_drew ?_ | refine blk_alloc ?_ _)); exact BK326.out⟩, ⟨by repeat (first | (with_reducible first | exact HB.out | apply below_alloc | apply pw_below_drewN | apply below_drew1 | refine below_set ?_ GE326.out) | exact HB.out)⟩⟩
                      · rw [if_neg c30] at H
                        have c30b0 : (a0_0 == 23) = false := beq_eq_false_iff_ne.mpr c30
                        have c30b1 : (a0_0 != 23) = true := bne_iff_ne.mpr c30
                        (first | rw [c30b0] | (simp only [i64_w, i32_w]; rw [c30b0]) | skip)
                        have H' := Aside0.mk H
                        clear H
                        go_wp2
                        (first | go_meet | (refine Met.intro ?_; go_step; (repeat apply Exists.intro); refine ⟨?rel, ?fr_⟩; (case fr_ => first | (simp only [c30b1, c30b0]; done) | (simp only [c30b1, c30b0]; rfl) | (simp only [c30b1, c30b0]; rfl))))
                        case rel => exact ⟨_, ((a0_0 == 28)), (by first | rfl | (simp; done) | (simp [*]; done)), H', ⟨by have := HJ2.out; have := HJ13.out; first | omega | exact Nat.le_refl _⟩, ⟨by (with_reducible repeat (first | refine blk_drewN ?_ _ | refine blk_drew ?_ | refine blk_alloc ?_ _)); exact BK326.out⟩, ⟨by repeat (first | (with_reducible first | exact HB.out | apply below_alloc | apply pw_below_drewN | apply below_drew1 | refine below_set ?_ GE326.out) | exact HB.out)⟩⟩
                    case rest =>
                      clear HC29
                      try clear c1
                      try clear c2
                      try clear p2
                      try clear c3
                      try clear c6
                      try clear c6b0
                      try clear c6b1
                      try clear p6
                      try clear c7
                      try clear c7b0
                      try clear c7b1
                      try clear c8
                      try clear c8b0
                      try clear c8b1
                      try clear c9
                      try clear c9b0
                      try clear c9b1
                      try clear c10
                      try clear c10b0
                      try clear c10b1
                      try clear c11
                      try clear c11b0
                      try clear c11b1
                      try clear c12
                      try clear c12b0
                      try clear c12b1
                      try clear c13
                      try clear c15
                      try clear c15b0
                      try clear c15b1
                      try clear c16
                      try clear c16b0
                      try clear c16b1
                      try clear c17
                      try clear c17b0
                      try clear c17b1
                      try clear c18
                      try clear c18b0
                      try clear c18b1
                      try clear c19
                      try clear c19b0
                      try clear c19b1
                      try clear c20
                      try clear c20b0
                      try clear c20b1
                      try clear c21
                      try clear c21b0
                      try clear c21b1
                      try clear c22
                      try clear c22b0
                      try clear c22b1
                      try clear c23
                      try clear c23b0
                      try clear c23b1
                      try clear c24
                      try clear c25
                      try clear c25b0
                      try clear c25b1
                      try clear c26
                      try clear c26b0
                      try clear c26b1
                      try clear c27
                      try clear c27b0
                      try clear c27b1
                      try clear c30
                      try clear c30b0
                      try clear c30b1
                      try clear hcz28_0
                      try clear hcz28_1
                      try clear hcz28_2
                      try clear hcz5_0
                      try clear hcz5_1
                      try clear hcz5_2
                      try clear hfz28_0
                      try clear hfz28_1
                      try clear hfz28_2
                      try clear hfz5_0
                      try clear hfz5_1
                      try clear hfz5_2
                      try clear p2
                      try clear p6
                      obtain ⟨kq, x43_28, rfl, HA, HJ28, BK326, HB⟩ := hcut
                      cases kq with
                      | zero => exact absurd HA.out (by simp [bluebellref06_After.j2])
                      | succ kj28 =>
                        have H := HA.out
                        clear HA
                        simp only [bluebellref06_After.j2] at H
                        by_cases c31 : x43_28 = true
                        · subst c31
                          have H1 : (some (wrap64 (a0_1 + 1))) = some r := by rw [if_pos rfl] at H; exact H
                          clear H
                          have H := H1
                          clear H1
                          obtain rfl := Option.some.inj H
                          have hcz32_0 : wc.cell? ⟨gb326, 0, none⟩ = some (.int .i64 a0_0) := (blk_cell BK326.out 0).trans rfl
                          have hcz32_1 : wc.cell? ⟨gb326, 1, none⟩ = some (.int .i64 a0_1) := (blk_cell BK326.out 1).trans rfl
                          have hcz32_2 : wc.cell? ⟨gb326, 2, none⟩ = some (.int .i64 a0_2) := (blk_cell BK326.out 2).trans rfl
                          have hfz32_0 := blk_frozen BK326.out 0
                          have hfz32_1 := blk_frozen BK326.out 1
                          have hfz32_2 := blk_frozen BK326.out 2
                          go_wp2
                          go_ret
                          exact ⟨by first | rfl | (simp [errW_none, errW_some] <;> rfl) | (simp [*, errW_none, errW_some] <;> rfl), by repeat (first | (with_reducible first | exact HB.out | apply below_alloc | apply pw_below_drewN | apply below_drew1 | refine below_set ?_ GE326.out) | exact HB.out)⟩
                        · replace c31 := Bool.eq_false_iff.mpr c31
                          subst c31
                          have H1 : (if a0_0 = 24 then (some (wrap64 (2 + a0_2))) else (some a1)) = some r := by rw [if_neg (show ¬ (false = true) by decide)] at H; exact H
                          clear H
                          have H := H1
                          clear H1
                          by_cases c33 : a0_0 = 24
                          · rw [if_pos c33] at H
                            have c33b0 : (a0_0 == 24) = true := beq_iff_eq.mpr c33
                            have c33b1 : (a0_0 != 24) = false := bne_eq_false_iff_eq.mpr c33
                            clear c33
                            obtain rfl := Option.some.inj H
                            have hcz34_0 : wc.cell? ⟨gb326, 0, none⟩ = some (.int .i64 a0_0) := (blk_cell BK326.out 0).trans rfl
                            have hcz34_1 : wc.cell? ⟨gb326, 1, none⟩ = some (.int .i64 a0_1) := (blk_cell BK326.out 1).trans rfl
                            have hcz34_2 : wc.cell? ⟨gb326, 2, none⟩ = some (.int .i64 a0_2) := (blk_cell BK326.out 2).trans rfl
                            have hfz34_0 := blk_frozen BK326.out 0
                            have hfz34_1 := blk_frozen BK326.out 1
                            have hfz34_2 := blk_frozen BK326.out 2
                            go_wp2
                            go_ret
                            exact ⟨by first | rfl | (simp [errW_none, errW_some] <;> rfl) | (simp [*, errW_none, errW_some] <;> rfl), by repeat (first | (with_reducible first | exact HB.out | apply below_alloc | apply pw_below_drewN | apply below_drew1 | refine below_set ?_ GE326.out) | exact HB.out)⟩
                          · rw [if_neg c33] at H
                            have c33b0 : (a0_0 == 24) = false := beq_eq_false_iff_ne.mpr c33
                            have c33b1 : (a0_0 != 24) = true := bne_iff_ne.mpr c33
                            obtain rfl := Option.some.inj H
                            go_wp2
                            go_ret
                            exact ⟨by first | rfl | (simp [errW_none, errW_some] <;> rfl) | (simp [*, errW_none, errW_some] <;> rfl), by repeat (first | (with_reducible first | exact HB.out | apply below_alloc | apply pw_below_drewN | apply below_drew1 | refine below_set ?_ GE326.out) | exact HB.out)⟩

end Go.Proofs.Ytkmcanknbdaliaa.PO

namespace Go.Proofs.Ytkmcanknbdaliaa.PO
open Go.RowKit Go.Proofs.YtkmcanknbdaliaaW.PrintWords Go.Proofs.YtkmcanknbdaliaaW.PrintLast Go.Proofs.YtkmcanknbdaliaaW.PrintMore
attribute [local go_sem] max2_int min2_int max_two min_two max_three min_three max_four min_four   -- for this text's walks alone
set_option linter.unusedVariables false
set_option linter.unusedSimpArgs false

/-! ### bluebellref00_EqInts: function 19 -/
def bluebellref00_EqInts.l0 : Nat → List Int → List Int → Int → Option (Bool)
  | 0, _, _, _ => none
  | k + 1, x0, x1, x5 => if x5 < (x0.length : Int) then (if 0 ≤ x5 then (if x5 < (x1.length : Int) then (if (rd x0 x5) = (rd x1 x5) then (bluebellref00_EqInts.l0 k x0 x1 (wrap64 (x5 + 1))) else (some false)) else (none)) else (none)) else (some true)
def bluebellref00_EqInts.f (k : Nat) (l0 : List Int) (l1 : List Int) : Option (Bool) := if (l0.length : Int) = (l1.length : Int) then (bluebellref00_EqInts.l0 k l0 l1 0) else (some false)
theorem bluebellref00_EqInts.mono_l : ∀ k, (∀ y0 y1 y2, LeO (bluebellref00_EqInts.l0 k y0 y1 y2) (bluebellref00_EqInts.l0 (k + 1) y0 y1 y2))
  | 0 => fun _ _ _ r h => by simp [bluebellref00_EqInts.l0] at h
  | k + 1 => by
    have ih0 := bluebellref00_EqInts.mono_l k
    · intro y0 y1 y2
      unfold bluebellref00_EqInts.l0
      repeat' first
      | (with_reducible exact ih0 _ _ _)
      | (with_reducible exact LeO.refl _)
      | (with_reducible exact LeO.none _)
      | (with_reducible refine LeO.ite ?_ ?_)
      | (with_reducible refine LeO.bind ?_ (fun _ => ?_))
      | exact ih0 _ _ _
      | exact LeO.none _
      | refine LeO.ite ?_ ?_
      | refine LeO.bind ?_ (fun _ => ?_)
theorem bluebellref00_EqInts.mono : ∀ a0 a1 k, LeO (bluebellref00_EqInts.f k a0 a1) (bluebellref00_EqInts.f (k + 1) a0 a1) := by
  intro a0 a1 k
  have ih0 := bluebellref00_EqInts.mono_l k
  unfold bluebellref00_EqInts.f
  repeat' first
      | (with_reducible exact ih0 _ _ _)
      | (with_reducible exact LeO.refl _)
      | (with_reducible exact LeO.none _)
      | (with_reducible refine LeO.ite ?_ ?_)
      | (with_reducible refine LeO.bind ?_ (fun _ => ?_))
      | exact ih0 _ _ _
      | exact LeO.none _
      | refine LeO.ite ?_ ?_
      | refine LeO.bind ?_ (fun _ => ?_)
set_option maxHeartbeats 8000000 in
set_option maxRecDepth 100000 in
theorem bluebellref00_EqInts.calls (k : Nat) (A0 : Option Addr) (c0 : Nat) (l0 : List Int) (A1 : Option Addr) (c1 : Nat) (l1 : List Int) (r : Bool) (w : World) (hr0 : Kd.C (Kd.int .i64) w A0 l0.length l0) (hc0 : l0.length ≤ c0) (hr1 : Kd.C (Kd.int .i64) w A1 l1.length l1) (hc1 : l1.length ≤ c1) (h : bluebellref00_EqInts.f k l0 l1 = some r) :
    Calls Try.prog 19 #[.slice A0 l0.length c0, .slice A1 l1.length c1] w fun e w' => e = .returned (.bool r) ∧ Drawn0 w w' := by
  have HR0 := Aside0.mk hr0
  have HC0 := Aside0.mk hc0
  clear hr0 hc0
  have HR1 := Aside0.mk hr1
  have HC1 := Aside0.mk hc1
  clear hr1 hc1
  have H : (if (l0.length : Int) = (l1.length : Int) then (bluebellref00_EqInts.l0 k l0 l1 0) else (some false)) = some r := h
  clear h
  by_cases c3 : (l0.length : Int) = (l1.length : Int)
  · rw [if_pos c3] at H
    have c3b0 : ((l0.length : Int) == (l1.length : Int)) = true := beq_iff_eq.mpr c3
    have c3b1 : ((l0.length : Int) != (l1.length : Int)) = false := bne_eq_false_iff_eq.mpr c3
    have c3b2 : (l0.length == l1.length) = true := by first | simpa using c3 | (simp at c3 ⊢; omega)
    clear c3
    have H' := Aside0.mk H
    clear H
    go_enter Try.func19, Try.ntmps19
    go_wp2
    repeat (go_quiet (fail); try go_wp2)
    go_loopg [5] k (fun kq v5 w' => ∃ (x5_1 : Int), v5 = .int .i64 x5_1 ∧ Aside0 (bluebellref00_EqInts.l0 kq l0 l1 x5_1 = some r) ∧ Aside0 (kq ≤ k) ∧ Drawn0 w w')
    case atStart => exact ⟨(0), (by first | rfl | (simp; done) | (simp [*]; done)), H', ⟨Nat.le_refl _⟩, by repeat (first | exact Drawn0.refl _ | apply Drawn0.step)⟩
    case round =>
      clear H'
      try clear c1
      try clear p2
      try clear c3
      try clear c3b0
      try clear c3b1
      try clear c3b2
      obtain ⟨x5_1, rfl, HA, HK1, ⟨m1, rfl⟩⟩ := hrel
      cases gk with
      | zero => exact absurd HA.out (by simp [bluebellref00_EqInts.l0])
      | succ k1 =>
        have H := HA.out
        clear HA
        simp only [bluebellref00_EqInts.l0] at H
        by_cases c4 : x5_1 < (l0.length : Int)
        · rw [if_pos c4] at H
          have c4b0 : decide (x5_1 < (l0.length : Int)) = true := decide_eq_true c4
          clear c4
          by_cases c5 : 0 ≤ x5_1
          · rw [if_pos c5] at H
            have c5b0 : decide (0 ≤ x5_1) = true := decide_eq_true c5
            clear c5
            by_cases c6 : x5_1 < (l1.length : Int)
            · rw [if_pos c6] at H
              have c6b0 : decide (x5_1 < (l1.length : Int)) = true := decide_eq_true c6
              clear c6
              by_cases c7 : (rd l0 x5_1) = (rd l1 x5_1)
              · rw [if_pos c7] at H
                have c7b0 : ((rd l0 x5_1) == (rd l1 x5_1)) = true := beq_iff_eq.mpr c7
                have c7b1 : ((rd l0 x5_1) != (rd l1 x5_1)) = false := bne_eq_false_iff_eq.mpr c7
                clear c7
                have H' := Aside0.mk H
                clear H
                have p171 : 0 ≤ (x5_1 : Int) := of_decide_eq_true (by first | (with_reducible assumption) | assumption)
                have q171 : x5_1 < (l0.length : Int) := of_decide_eq_true (by first | (with_reducible assumption) | assumption)
                obtain ⟨ad171, e171, hx171_0⟩ := Kd.at_int HR0.out x5_1 p171 q171
                cases e171
                replace p171 := eq_true p171
                replace q171 := eq_true q171
                have p172 : 0 ≤ (x5_1 : Int) := of_decide_eq_true (by first | (with_reducible assumption) | assumption)
                have q172 : x5_1 < (l1.length : Int) := of_decide_eq_true (by first | (with_reducible assumption) | assumption)
                obtain ⟨ad172, e172, hx172_0⟩ := Kd.at_int HR1.out x5_1 p172 q172
                cases e172
                replace p172 := eq_true p172
                replace q172 := eq_true q172
                go_wp2
                repeat (go_quiet (fail); try go_wp2)
                go_roundg k1
                case measure => have := HK1.out; omega
                case rel => exact ⟨(wrap64 (x5_1 + 1)), (by first | rfl | (simp; done) | (simp [*]; done)), H', ⟨by have := HK1.out; omega⟩, by repeat (first | exact Drawn0.refl _ | apply Drawn0.step)⟩
              · rw [if_neg c7] at H
                have c7b0 : ((rd l0 x5_1) == (rd l1 x5_1)) = false := beq_eq_false_iff_ne.mpr c7
                have c7b1 : ((rd l0 x5_1) != (rd l1 x5_1)) = true := bne_iff_ne.mpr c7
                obtain rfl := Option.some.inj H
                have p171 : 0 ≤ (x5_1 : Int) := of_decide_eq_true (by first | (with_reducible assumption) | assumption)
                have q171 : x5_1 < (l0.length : Int) := of_decide_eq_true (by first | (with_reducible assumption) | assumption)
                obtain ⟨ad171, e171, hx171_0⟩ := Kd.at_int HR0.out x5_1 p171 q171
                cases e171
                replace p171 := eq_true p171
                replace q171 := eq_true q171
                have p172 : 0 ≤ (x5_1 : Int) := of_decide_eq_true (by first | (with_reducible assumption) | assumption)
                have q172 : x5_1 < (l1.length : Int) := of_decide_eq_true (by first | (with_reducible assumption) | assumption)
                obtain ⟨ad172, e172, hx172_0⟩ := Kd.at_int HR1.out x5_1 p172 q172
                cases e172
                replace p172 := eq_true p172
                replace q172 := eq_true q172
                go_wp2
                repeat (go_quiet (fail); try go_wp2)
                go_ret
                exact ⟨by first | rfl | (simp; done) | (simp [*]; done), by repeat (first | exact Drawn0.refl _ | apply Drawn0.step)⟩
            · rw [if_neg c6] at H
              exact absurd H (by simp)
          · rw [if_neg c5] at H
            exact absurd H (by simp)
        · rw [if_neg c4] at H
          have c4b0 : decide (x5_1 < (l0.length : Int)) = false := decide_eq_false c4
          clear c4
          obtain rfl := Option.some.inj H
          go_wp2
          repeat (go_quiet (fail); try go_wp2)
          go_ret
          exact ⟨by first | rfl | (simp; done) | (simp [*]; done), by repeat (first | exact Drawn0.refl _ | apply Drawn0.step)⟩
  · rw [if_neg c3] at H
    have c3b0 : ((l0.length : Int) == (l1.length : Int)) = false := beq_eq_false_iff_ne.mpr c3
    have c3b1 : ((l0.length : Int) != (l1.length : Int)) = true := bne_iff_ne.mpr c3
    have c3b2 : (l0.length == l1.length) = false := by first | simpa using c3 | (simp at c3 ⊢; omega)
    obtain rfl := Option.some.inj H
    go_enter Try.func19, Try.ntmps19
    go_wp2
    repeat (go_quiet (fail); try go_wp2)
    go_ret
    exact ⟨by first | rfl | (simp; done) | (simp [*]; done), by repeat (first | exact Drawn0.refl _ | apply Drawn0.step)⟩

end Go.Proofs.Ytkmcanknbdaliaa.PO
