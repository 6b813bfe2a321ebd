/- A contract of the library or of a function, by hand. -/
import Derived.Test.YtgileklccaliiaaDoorPOcHBuilder
import Derived.Test.YtgileklccaliiaaDoorPOcC
import Derived.Test.YtgileklccaliiaaDoorPOcHH1
set_option linter.unusedVariables false
set_option linter.unusedSimpArgs false
namespace Go.Proofs.YtgileklccaliiaaDoor.Lx
open Go Go.RowKit Go.Pv
set_option maxRecDepth 100000
/-- A builder in a world: its block, what its fields hold. -/
structure BdAt (w : World) (b : Nat) (pv v : Value) (l : List Value) : Prop where
  heap : w.heap[b]? = some (.cells #[pv, v] 43 (0, 0))
  ptr : pv = .pointer none ∨ pv = .pointer (some ⟨b, 0, none⟩)
  own : w.ownsT true 0 5 1 v l.length l
  ne : blk v ≠ some b
theorem BdAt.lt {w : World} {b : Nat} {pv v : Value} {l : List Value} (h : BdAt w b pv v l) : b < w.heap.size := (Array.getElem?_eq_some_iff.1 h.heap).1
theorem set_heap {w : World} {b j : Nat} {cs : Array Value} {T : TypeId} {fr : Nat × Nat} (h : w.heap[b]? = some (.cells cs T fr)) (u : Value) : (w.setCell ⟨b, j, none⟩ u).heap[b]? = some (.cells (cs.setIfInBounds j u) T fr) := by
  simp [World.setCell, Array.getElem?_modify, h]
theorem bw_set {W : Nat → Prop} {a w : World} (h : BelowW W a w) {p : Addr} (hp : W p.block ∨ a.heap.size ≤ p.block) (u : Value) : BelowW W a (w.setCell p u) :=
  ⟨h.os, h.tape, h.output, by simpa [World.setCell] using h.size, fun k hk hW => by
    rw [Below.heap_setCell _ _ _ _ (fun e => by
      rcases hp with hp | hp
      · rw [e] at hW; exact hW hp
      · omega)]
    exact h.block k hk hW⟩
theorem cc_bd {b : Nat} {pv v : Value} {l : List Value} {w : World} (h : BdAt w b pv v l) :
    Calls Tryd.prog 28 #[.pointer (some ⟨b, 0, none⟩)] w fun e w' => e = .returned (.tuple #[]) ∧ BdAt w' b (.pointer (some ⟨b, 0, none⟩)) v l ∧ BelowW (fun k => k = b) w w' ∧ w'.heap.size = w.heap.size := by
  rcases h.ptr with rfl | rfl
  · have h0 : w.cell? ⟨b, 0, none⟩ = some (.pointer none) := by rw [Lib.cell_of_heap h.heap]; rfl
    have hsh : w.shape? b = some (43, 2) := by simp [World.shape?, h.heap]
    have hfz : w.frozen? ⟨b, 0, none⟩ = false := Lib.frozen_of_heap h.heap 0
    refine (copyCheck_fresh b w h0 hsh hfz).mono ?_
    rintro e w' ⟨rfl, rfl⟩
    have hb' : (w.setCell ⟨b, 0, none⟩ (.pointer (some ⟨b, 0, none⟩))).heap[b]? = some (.cells #[.pointer (some ⟨b, 0, none⟩), v] 43 (0, 0)) := (set_heap h.heap _).trans (by simp)
    refine ⟨rfl, ⟨hb', .inr rfl, owns_same h.own fun g hg => Below.heap_setCell _ _ _ _ (fun e => h.ne (by rw [hg]; exact congrArg some e)), h.ne⟩, bw_set (W := fun k => k = b) (BelowW.refl w) (.inl rfl) _, by simp [World.setCell]⟩
  · have h0 : w.cell? ⟨b, 0, none⟩ = some (.pointer (some ⟨b, 0, none⟩)) := by rw [Lib.cell_of_heap h.heap]; rfl
    refine (copyCheck_used b w h0).mono ?_
    rintro e w' ⟨rfl, rfl⟩
    exact ⟨rfl, h, BelowW.refl _, rfl⟩
/-- What a writer leaves. -/
def Put (w : World) (b : Nat) (v : Value) (l : List Value) (w' : World) : Prop :=
  ∃ v', BdAt w' b (.pointer (some ⟨b, 0, none⟩)) v' l ∧ BelowW (fun k => k = b ∨ blk v = some k) w w' ∧ ∀ k, blk v' = some k → (blk v = some k ∨ w.heap.size ≤ k) ∧ k < w'.heap.size
theorem put_end {w w1 wa w2 : World} {b : Nat} {v v' : Value} {l l' : List Value} {row : Option Nat} (h1 : BdAt w1 b (.pointer (some ⟨b, 0, none⟩)) v l) (hbel : BelowW (fun k => k = b) w w1) (hsz : w1.heap.size = w.heap.size)
    (ha : BelowW (fun _ => False) w1 wa) (hown : w2.ownsT true 0 5 1 v' l'.length l') (hg : wa.grownBy w2 row) (hrow : ∀ k, row = some k → blk v = some k) (hv' : ∀ k, blk v' = some k → blk v = some k ∨ wa.heap.size ≤ k) :
    Put w b v l' (w2.setCell ⟨b, 1, none⟩ v') := by
  have hblt := h1.lt
  have hba : b < wa.heap.size := Nat.lt_of_lt_of_le hblt ha.size
  have hvg : ∀ g, blk v = some g → g < w1.heap.size := fun g hg => owns_blk h1.own hg
  have hb2 : w2.heap[b]? = some (.cells #[.pointer (some ⟨b, 0, none⟩), v] 43 (0, 0)) := by
    rw [hg.block b hba (fun e => h1.ne (hrow b e.symm)), ha.block b hblt (fun h => h)]
    exact h1.heap
  have hne : blk v' ≠ some b := fun h => by
    rcases hv' b h with h' | h'
    · exact h1.ne h'
    · omega
  have hlt2 : b < w2.heap.size := (Array.getElem?_eq_some_iff.1 hb2).1
  refine ⟨v', ⟨(set_heap hb2 _).trans (by simp), .inr rfl, owns_same hown fun g hg' => Below.heap_setCell _ _ _ _ (fun e => hne (by rw [hg']; exact congrArg some e)), hne⟩, ?_, fun k hk => ?_⟩
  · refine bw_set ⟨hg.os.trans (ha.os.trans hbel.os), hg.tape.trans (ha.tape.trans hbel.tape), hg.output.trans (ha.output.trans hbel.output), by have := ha.size; have := hg.size; omega, fun k hk hW => ?_⟩ (.inl (.inl rfl)) _
    rw [hg.block k (by have := ha.size; omega) (fun e => hW (.inr (hrow k e.symm))), ha.block k (by omega) (fun h => h)]
    exact hbel.block k hk fun e => hW (.inl e)
  · refine ⟨?_, ?_⟩
    · rcases hv' k hk with h | h
      · exact .inl h
      · right; have := ha.size; omega
    · have := owns_blk hown hk
      simpa [World.setCell] using this
theorem alloc_belowW (w : World) (o : Obj) : BelowW (fun _ => False) w (w.alloc o) := ⟨rfl, rfl, rfl, by simp, fun k hk _ => Below.heap_alloc _ _ _ hk⟩
set_option maxHeartbeats 1000000 in
theorem WriteString_bd {b : Nat} {pv v : Value} {l : List Value} {w : World} (s : ByteArray) (h : BdAt w b pv v l) (hlen : l.length + s.size ≤ 140737488355328) :
    Calls Tryd.prog 13 #[.pointer (some ⟨b, 0, none⟩), .string s] w fun e w' => e = .returned (.tuple #[.int .i64 s.size, .nilIface]) ∧ Put w b v (l ++ Lib.strCells s) w' := by
  obtain ⟨i0, hi, hz0, hz1, hz2⟩ := info_parts infoByte
  go_enter Tryd.func13, Tryd.ntmps13
  go_wp2_with (go_at_call 28; refine (cc_bd h).mono ?_)
  rintro e w1 ⟨rfl, h1, hb1, hs1⟩
  have c0 : w1.cell? ⟨b, 0, none⟩ = some (.pointer (some ⟨b, 0, none⟩)) := by rw [Lib.cell_of_heap h1.heap]; rfl
  have c1 : w1.cell? ⟨b, 1, none⟩ = some v := by rw [Lib.cell_of_heap h1.heap]; rfl
  have H1 := Lib.hid h1
  have HB := Lib.hid hb1
  have HS := Lib.hid hs1
  clear h h1 hb1 hs1
  have hown : w1.ownsT true 0 5 i0.size v l.length l := by rw [hz1]; exact H1.out.own
  go_wp2_with (at_builtin; refine wpList_append_any (P := Tryd.prog) rfl _ _ _ _ rfl Tryd.underlying41 Tryd.underlying9 (.inl rfl) hi hz0 (by rw [hz1]; rfl) _ _ _ rfl hown _ s.size (Lib.strCells s) rfl (by rw [hz1]; exact src_str s) (by unfold maxLen; omega) (by rw [hz2]; omega) ?_)
  intro v' w2 row hown' hgrow hrow hv'
  have HE := Lib.hid (put_end (l' := l ++ Lib.strCells s) H1.out HB.out HS.out ⟨rfl, rfl, rfl, Nat.le_refl _, fun _ _ _ => rfl⟩ (by simpa [Lib.strCells_length] using hown') hgrow hrow hv')
  have hb2 : w2.heap[b]? = some (.cells #[.pointer (some ⟨b, 0, none⟩), v] 43 (0, 0)) := by
    rw [hgrow.block b H1.out.lt (fun e => H1.out.ne (hrow b e.symm))]
    exact H1.out.heap
  have d0 : w2.cell? ⟨b, 0, none⟩ = some (.pointer (some ⟨b, 0, none⟩)) := by rw [Lib.cell_of_heap hb2]; rfl
  have d1 : w2.cell? ⟨b, 1, none⟩ = some v := by rw [Lib.cell_of_heap hb2]; rfl
  have f1 : w2.frozen? ⟨b, 1, none⟩ = false := Lib.frozen_of_heap hb2 1
  have hform : v' = .slice none 0 0 ∨ ∃ a n cap, v' = .slice (some a) n cap := by
    rcases hown'.2 with ⟨h, _⟩ | ⟨g, cap, cur, fz, h, _⟩
    · exact .inl h
    · exact .inr ⟨_, _, _, h⟩
  clear hown' hgrow hrow hv' hb2 hown
  rcases hform with rfl | ⟨a, n, cap, rfl⟩
  all_goals (go_wp2; go_ret2; exact ⟨rfl, HE.out⟩)
end Go.Proofs.YtgileklccaliiaaDoor.Lx
