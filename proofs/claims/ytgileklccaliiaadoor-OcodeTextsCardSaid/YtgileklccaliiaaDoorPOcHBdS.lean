/- A contract of the library or of a function, by hand. -/
import Derived.Test.YtgileklccaliiaaDoorPOcHBd
import Derived.Lib.UnsafeStr
set_option linter.unusedVariables false
set_option linter.unusedSimpArgs false
set_option maxRecDepth 100000
namespace Go.Proofs.YtgileklccaliiaaDoor.Lx
open Go Go.RowKit Go.Pv
theorem bw_drew {W : Nat → Prop} (w : World) : BelowW W w w.drew := ⟨rfl, rfl, rfl, Nat.le_refl _, fun _ _ _ => rfl⟩
theorem cellsByteT : Tryd.prog.cellsOf 5 = 1 := by kernel_rfl
set_option maxHeartbeats 2000000 in
/-- What a builder holds, read as a text. -/
theorem String_bd {b : Nat} {pv v : Value} {l : List UInt8} {w : World} (h : BdAt w b pv v (Lib.byteCells l)) :
    Calls Tryd.prog 19 #[.pointer (some ⟨b, 0, none⟩)] w fun e w' => e = .returned (.string ⟨l.toArray⟩) ∧ BelowW (fun k => blk v = some k) w w' := by
  have mixed : Tryd.prog.follows .mixedOrders = true := by kernel_rfl
  have hlt := h.lt
  have hbk := h.heap
  have hown := h.own
  have hne := h.ne
  clear h
  rw [Lib.byteCells_length] at hown
  by_cases h0 : l = []
  · subst h0
    have hUS : ∀ (W : World) (q : Option Addr), (Builtin.unsafeString_ #[68, 3] 9 #[.pointer q, .int .i64 0]).run Tryd.prog W = .ok (.string .empty) W := fun W q => Lib.run_unsafeString_none W _ _ _ q
    rcases hown.2 with ⟨rfl, -⟩ | ⟨g, cap, cur, fz, rfl, -, hg, -, -, -, -, -⟩
    · have c1 : w.drew.cell? ⟨b, 1, none⟩ = some (.slice none 0 0) := by
        have : w.drew.heap[b]? = some (.cells #[pv, .slice none 0 0] 43 (0, 0)) := hbk
        rw [Lib.cell_of_heap this]; rfl
      have hSD : (Builtin.unsafeSliceData_ #[41] 68 #[.slice none 0 0]).run Tryd.prog w.drew = .ok (.pointer none) w.drew := rfl
      clear hown hbk hne
      go_enter Tryd.func19, Tryd.ntmps19
      go_wp2
      go_region_o
      all_goals (go_wp2; go_ret; exact ⟨rfl, bw_drew w⟩)
    · by_cases hc0 : cap = 0
      · subst hc0
        have hSD : (Builtin.unsafeSliceData_ #[41] 68 #[.slice (some ⟨g, 0, none⟩) 0 0]).run Tryd.prog w.drew = .ok (.pointer (some ⟨w.drew.heap.size, 0, none⟩)) (w.drew.alloc (.view ⟨g, 0, none⟩ 5)) :=
          Lib.run_unsafeSliceData_zero w.drew _ _ 5 Tryd.underlying68 ⟨g, 0, none⟩ 0 (5, cur.size) (by have hg' : w.drew.heap[g]? = some (.cells cur 5 fz) := hg; simp [World.shape?, hg'])
        have c1 : w.drew.cell? ⟨b, 1, none⟩ = some (.slice (some ⟨g, 0, none⟩) 0 0) := by
          have : w.drew.heap[b]? = some (.cells #[pv, .slice (some ⟨g, 0, none⟩) 0 0] 43 (0, 0)) := hbk
          rw [Lib.cell_of_heap this]; rfl
        have c2 : (w.drew.alloc (.view ⟨g, 0, none⟩ 5)).cell? ⟨b, 1, none⟩ = some (.slice (some ⟨g, 0, none⟩) 0 0) := by
          have : (w.drew.alloc (.view ⟨g, 0, none⟩ 5)).heap[b]? = _ := (Lib.alloc_old w.drew _ b hlt).trans hbk
          rw [Lib.cell_of_heap this]; rfl
        have c3 : (w.alloc (.view ⟨g, 0, none⟩ 5)).drew.cell? ⟨b, 1, none⟩ = some (.slice (some ⟨g, 0, none⟩) 0 0) := c2
        have c0 : w.cell? ⟨b, 1, none⟩ = some (.slice (some ⟨g, 0, none⟩) 0 0) := c1
        have hend : ∀ W : Nat → Prop, BelowW W w (w.drew.alloc (.view ⟨g, 0, none⟩ 5)) := fun W => ⟨rfl, rfl, rfl, by simp, fun k hk _ => Lib.alloc_old w.drew _ k hk⟩
        clear hown hbk hne hg
        go_enter Tryd.func19, Tryd.ntmps19
        go_wp2
        go_region_o
        all_goals (go_wp2; go_ret; exact ⟨rfl, hend _⟩)
      · have hSD : (Builtin.unsafeSliceData_ #[41] 68 #[.slice (some ⟨g, 0, none⟩) 0 cap]).run Tryd.prog w.drew = .ok (.pointer (some ⟨g, 0, none⟩)) w.drew :=
          Lib.run_unsafeSliceData_row _ _ _ _ _ _ hc0
        have c1 : w.drew.cell? ⟨b, 1, none⟩ = some (.slice (some ⟨g, 0, none⟩) 0 cap) := by
          have : w.drew.heap[b]? = some (.cells #[pv, .slice (some ⟨g, 0, none⟩) 0 cap] 43 (0, 0)) := hbk
          rw [Lib.cell_of_heap this]; rfl
        clear hown hbk hne hc0 hg
        go_enter Tryd.func19, Tryd.ntmps19
        go_wp2
        go_region_o
        all_goals (go_wp2; go_ret; exact ⟨rfl, bw_drew w⟩)
  · have hl0 : l.length ≠ 0 := by simpa using h0
    obtain ⟨g, cap, cur, fz, rfl, hg, hnc, hcm, hcs, htake⟩ : ∃ g cap cur fz, v = .slice (some ⟨g, 0, none⟩) l.length cap ∧ w.heap[g]? = some (.cells cur 5 fz) ∧ l.length ≤ cap ∧ cap ≤ maxLen ∧ cur.size = cap * 1 ∧ cur.toList.take (l.length * 1) = Lib.byteCells l := by
      rcases hown.2 with ⟨_, hz⟩ | ⟨g, cap, cur, fz, hv, -, r1, -, r⟩
      · exact absurd hz hl0
      · exact ⟨g, cap, cur, fz, hv, r1, r⟩
    have c1 : w.drew.cell? ⟨b, 1, none⟩ = some (.slice (some ⟨g, 0, none⟩) l.length cap) := by
      have : w.drew.heap[b]? = some (.cells #[pv, .slice (some ⟨g, 0, none⟩) l.length cap] 43 (0, 0)) := hbk
      rw [Lib.cell_of_heap this]; rfl
    have hSD : (Builtin.unsafeSliceData_ #[41] 68 #[.slice (some ⟨g, 0, none⟩) l.length cap]).run Tryd.prog w.drew = .ok (.pointer (some ⟨g, 0, none⟩)) w.drew :=
      Lib.run_unsafeSliceData_row _ _ _ _ _ _ (by omega)
    have hUS : (Builtin.unsafeString_ #[68, 3] 9 #[.pointer (some ⟨g, 0, none⟩), .int .i64 l.length]).run Tryd.prog w.drew = .ok (.string ⟨l.toArray⟩) (w.drew.freeze ⟨g, 0, none⟩ l.length) := by
      refine Lib.run_unsafeString_row w.drew 68 3 9 5 Tryd.underlying68 cellsByteT g cur.size (by have hg' : w.drew.heap[g]? = some (.cells cur 5 fz) := hg; simp [World.shape?, hg']) l h0 (by omega) (by unfold maxLen at hcm; omega) ?_
      intro j x hx
      exact hown.cells (g := g) rfl j (.int .u8 x.toNat) (by simp [Lib.byteCells, hx])
    have hend : BelowW (fun k => blk (.slice (some ⟨g, 0, none⟩) l.length cap) = some k) w (w.drew.freeze ⟨g, 0, none⟩ l.length) := by
      unfold World.freeze
      split
      · exact bw_drew w
      · refine ⟨rfl, rfl, rfl, by simp, fun k hk hW => ?_⟩
        have hne : g ≠ k := fun e => hW (by simp [blk, e])
        simp only [Array.getElem?_modify]
        rw [if_neg hne]
        rfl
    clear hown hbk hne hg htake hcs hcm hnc
    go_enter Tryd.func19, Tryd.ntmps19
    go_wp2
    go_region_o
    all_goals (go_wp2; go_ret; exact ⟨rfl, hend⟩)
end Go.Proofs.YtgileklccaliiaaDoor.Lx
