/- A contract of the library or of a function, by hand. -/
import Derived.Test.YtgileklccaliiaaDoorPOcHBd
set_option linter.unusedVariables false
set_option linter.unusedSimpArgs false
namespace Go.Proofs.YtgileklccaliiaaDoor.Lx
open Go Go.RowKit Go.Pv
set_option maxRecDepth 100000
set_option maxHeartbeats 1000000 in
theorem WriteByte_bd {b : Nat} {pv v : Value} {l : List Value} {w : World} (c : Int) (h : BdAt w b pv v l) (hlen : l.length + 1 ≤ 140737488355328) :
    Calls Tryd.prog 14 #[.pointer (some ⟨b, 0, none⟩), .int .u8 c] w fun e w' => e = .returned .nilIface ∧ Put w b v (l ++ [.int .u8 c]) w' := by
  obtain ⟨i0, hi, hz0, hz1, hz2⟩ := info_parts infoByte
  go_enter Tryd.func14, Tryd.ntmps14
  go_wp2_with (go_at_call 28; refine (cc_bd h).mono ?_)
  rintro e w1 ⟨rfl, h1, hb1, hs1⟩
  have c0 : w1.cell? ⟨b, 0, none⟩ = some (.pointer (some ⟨b, 0, none⟩)) := by rw [Lib.cell_of_heap h1.heap]; rfl
  have c1 : w1.cell? ⟨b, 1, none⟩ = some v := by rw [Lib.cell_of_heap h1.heap]; rfl
  have H1 := Lib.hid h1
  have HB := Lib.hid hb1
  have HS := Lib.hid hs1
  clear h h1 hb1 hs1
  have hown : (w1.alloc (.cells #[.int .u8 c] 5)).ownsT true 0 5 i0.size v l.length l := by
    rw [hz1]
    exact owns_same H1.out.own fun g hg => Below.heap_alloc _ _ _ (owns_blk H1.out.own hg)
  go_wp2_with (at_builtin; refine wpList_append_any (P := Tryd.prog) rfl _ _ _ _ rfl Tryd.underlying41 Tryd.underlying41 (.inr ⟨_, rfl⟩) hi hz0 (by rw [hz1]; rfl) _ _ _ rfl hown _ 1 [.int .u8 c] rfl (by rw [hz1]; exact src_one (by simp) rfl) (by unfold maxLen; omega) (by rw [hz2]; omega) ?_)
  intro v' w2 row hown' hgrow hrow hv'
  have HE := Lib.hid (put_end (l' := l ++ [.int .u8 c]) H1.out HB.out HS.out (alloc_belowW _ _) (by simpa using hown') hgrow hrow (by simpa using hv'))
  have hb2 : w2.heap[b]? = some (.cells #[.pointer (some ⟨b, 0, none⟩), v] 43 (0, 0)) := by
    rw [hgrow.block b (by have := H1.out.lt; simp; omega) (fun e => H1.out.ne (hrow b e.symm)), Lib.alloc_old w1 _ b H1.out.lt]
    exact H1.out.heap
  have d0 : w2.cell? ⟨b, 0, none⟩ = some (.pointer (some ⟨b, 0, none⟩)) := by rw [Lib.cell_of_heap hb2]; rfl
  have d1 : w2.cell? ⟨b, 1, none⟩ = some v := by rw [Lib.cell_of_heap hb2]; rfl
  have f1 : w2.frozen? ⟨b, 1, none⟩ = false := Lib.frozen_of_heap hb2 1
  have hform : v' = .slice none 0 0 ∨ ∃ a n cap, v' = .slice (some a) n cap := by
    rcases hown'.2 with ⟨h, _⟩ | ⟨g, cap, cur, fz, h, _⟩
    · exact .inl h
    · exact .inr ⟨_, _, _, h⟩
  clear hown' hgrow hrow hv' hb2 hown
  rcases hform with rfl | ⟨a, n, cap, rfl⟩
  all_goals (go_wp2; go_ret; exact ⟨rfl, HE.out⟩)
end Go.Proofs.YtgileklccaliiaaDoor.Lx
