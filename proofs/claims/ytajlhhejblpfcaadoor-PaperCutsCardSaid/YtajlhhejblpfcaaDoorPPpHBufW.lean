/- A contract of the library or of a function, by hand. -/
import Derived.Test.YtajlhhejblpfcaaDoorPPpHBuf
set_option linter.unusedVariables false
set_option linter.unusedSimpArgs false
set_option maxRecDepth 100000
namespace Go.Proofs.YtajlhhejblpfcaaDoor.Lx
open Go Go.RowKit Go.Pv
variable {T : TypeId}
theorem BfAt.cases {w : World} {b : Nat} {v : Value} {lr : Int} {l : List Value} (h : BfAt T w b v lr l) : (l = [] ∧ v = .slice none 0 0) ∨
    ∃ g cap cur, v = .slice (some ⟨g, 0, none⟩) l.length cap ∧ w.heap[g]? = some (.cells cur 5 (0, 0)) ∧ l.length ≤ cap ∧ cap ≤ maxLen ∧ cur.size = cap ∧ cur.toList.take l.length = l ∧ g ≠ b := by
  rcases h.own.2 with ⟨h1, h0⟩ | ⟨g, cap, cur, hv, -, hg, hnc, hcm, hcs, htk⟩
  · exact .inl ⟨List.eq_nil_of_length_eq_zero h0, h1⟩
  · exact .inr ⟨g, cap, cur, hv, hg, hnc, hcm, by simpa using hcs, by simpa using htk, fun e => h.ne (by rw [hv, e]; rfl)⟩
/-- No room for n more. -/
def NoR (w : World) (b : Nat) (v : Value) (l : List Value) (n : Nat) : Prop := (l = [] ∧ v = .slice none 0 0) ∨
    ∃ g cap cur, v = .slice (some ⟨g, 0, none⟩) l.length cap ∧ w.heap[g]? = some (.cells cur 5 (0, 0)) ∧ l.length ≤ cap ∧ cap ≤ maxLen ∧ cur.size = cap ∧ cur.toList.take l.length = l ∧ g ≠ b ∧ cap - l.length < n
theorem bf_try {w : World} {b : Nat} {v : Value} {lr : Int} {l : List Value} (n : Nat) (h : BfAt T w b v lr l) (hn : 1 ≤ n) :
    Calls Tryd.prog 58 #[.pointer (some ⟨b, 0, none⟩), .int .i64 n] w fun e w' =>
      (e = .returned (.tuple #[.int .i64 l.length, .bool true]) ∧ Rdy T w w' b lr l.length n l (blk v)) ∨ (e = .returned (.tuple #[.int .i64 0, .bool false]) ∧ w' = w ∧ NoR w b v l n) := by
  have f0 : w.frozen? ⟨b, 0, none⟩ = false := Lib.frozen_of_heap h.heap 0
  rcases h.cases with ⟨h1, h2⟩ | ⟨g, cap, cur, h2, hg, hlc, hcm, hcs, htk, hgb⟩
  · have c0 : w.cell? ⟨b, 0, none⟩ = some (.slice none 0 0) := by rw [Lib.cell_of_heap h.heap, h2]; rfl
    refine (Tryd.Buffer_tryGrow_none b none 0 0 n w c0 (Nat.le_refl _) (Nat.zero_le _) (by omega)).mono ?_
    rintro e w' ⟨rfl, rfl⟩
    exact .inr ⟨rfl, rfl, .inl ⟨h1, h2⟩⟩
  · have c0 : w.cell? ⟨b, 0, none⟩ = some (.slice (some ⟨g, 0, none⟩) l.length cap) := by rw [Lib.cell_of_heap h.heap, h2]; rfl
    by_cases hr : n ≤ cap - l.length
    · refine (Tryd.Buffer_tryGrow_room b _ l.length cap n w c0 f0 hlc hcm hr).mono ?_
      rintro e w' ⟨rfl, rfl⟩
      refine .inl ⟨rfl, g, cap, cur, (set_heap (j := 0) h.heap _).trans (by simp), (Below.heap_setCell _ _ _ _ hgb).trans hg, by omega, hcm, hcs, htk, hgb, .inl (by rw [h2]; rfl), bw_set (W := fun k => k = b) (BelowW.refl w) (.inl rfl) _⟩
    · refine (Tryd.Buffer_tryGrow_none b _ l.length cap n w c0 hlc hcm (by omega)).mono ?_
      rintro e w' ⟨rfl, rfl⟩
      exact .inr ⟨rfl, rfl, .inr ⟨g, cap, cur, h2, hg, hlc, hcm, hcs, htk, hgb, by omega⟩⟩
theorem bf_grow {w : World} {b : Nat} {v : Value} {lr : Int} {l : List Value} (n : Nat) (h : BfAt T w b v lr l) (hn : 1 ≤ n) (hno : NoR w b v l n) (h1 : ∀ v ∈ l, v.oneCell' = true) (hlim : l.length + n ≤ 140737488355328) :
    Calls Tryd.prog 59 #[.pointer (some ⟨b, 0, none⟩), .int .i64 n] w fun e w' => e = .returned (.int .i64 l.length) ∧ Rdy T w w' b lr l.length n l (blk v) := by
  rcases hno with ⟨h2, h3⟩ | ⟨g, cap, cur, h2, hg, hlc, hcm, hcs, htk, hgb, hr⟩
  · subst h2 h3
    by_cases h64 : n ≤ 64
    · exact grow_nil_small b n lr w h.heap hn h64
    · exact grow_nil_big b n lr w h.heap (by omega) (by simpa using hlim)
  · subst h2
    exact grow_rowl b g l.length cap n lr cur l w h.heap rfl hg hlc hcm hcs htk hgb h1 hn hr hlim
/-- Behind a write. -/
def Wrt (T : TypeId) (w w' : World) (b : Nat) (vo : Option Nat) (lr : Int) (l : List Value) : Prop :=
  ∃ v', BfAt T w' b v' lr l ∧ (∀ k, blk v' = some k → vo = some k ∨ w.heap.size ≤ k) ∧ BelowW (fun k => k = b ∨ vo = some k) w w'
theorem BfAt.last {w : World} {b : Nat} {v : Value} {lr : Int} {l : List Value} (h : BfAt T w b v lr l) (x : Int) : BfAt T (w.setCell ⟨b, 2, none⟩ (.int .i8 x)) b v x l :=
  ⟨(set_heap (j := 2) h.heap _).trans (by simp), h.own.kept (Lib.grownBy_setCell w b 2 _) (by
    by_cases hz : v.ownBlock = none
    · exact .inl hz
    · refine .inr fun e => h.ne ?_
      rcases h.own.2 with ⟨h1, _⟩ | ⟨g, cap, cur, hv, _⟩
      · rw [h1] at hz; exact absurd rfl hz
      · rw [hv] at e ⊢; simpa [Value.ownBlock, blk] using e), h.ne⟩
theorem Wrt.pre {w w' : World} {b : Nat} {vo : Option Nat} {lr x : Int} {l : List Value} (h : Wrt T (w.setCell ⟨b, 2, none⟩ (.int .i8 x)) w' b vo lr l) : Wrt T w w' b vo lr l := by
  obtain ⟨v', h1, h2, h3⟩ := h
  have hs : (w.setCell ⟨b, 2, none⟩ (.int .i8 x)).heap.size = w.heap.size := by simp [World.setCell]
  refine ⟨v', h1, fun k hk => by rw [← hs]; exact h2 k hk, ⟨h3.os, h3.tape, h3.output, by rw [← hs]; exact h3.size, fun k hk hW => ?_⟩⟩
  rw [h3.block k (by rw [hs]; exact hk) hW]
  exact Below.heap_setCell _ _ _ _ fun e => hW (.inl e)
theorem wrt_mk {w W1 w' : World} {b g cap n : Nat} {lr : Int} {vo : Option Nat} {old news : List Value} {cur' : Array Value} (hbk : W1.heap[b]? = some (.cells #[.slice (some ⟨g, 0, none⟩) (old.length + n) cap, .int .i64 0, .int .i8 lr] T (0, 0)))
    (hnc : old.length + n ≤ cap) (hcm : cap ≤ maxLen) (hgb : g ≠ b) (hvo : vo = some g ∨ w.heap.size ≤ g) (hbel : BelowW (fun k => k = b) w W1) (hn : news.length = n)
    (hg' : w'.heap[g]? = some (.cells cur' 5 (0, 0))) (hsz : cur'.size = cap) (htk : cur'.toList.take (old.length + n) = old ++ news) (ho : ∀ k, k ≠ g → w'.heap[k]? = W1.heap[k]?) (hs : w'.heap.size = W1.heap.size) (hos : w'.os = W1.os ∧ w'.tape = W1.tape ∧ w'.output = W1.output) : Wrt T w w' b vo lr (old ++ news) := by
  have hl : (old ++ news).length = old.length + n := by rw [List.length_append, hn]
  refine ⟨.slice (some ⟨g, 0, none⟩) (old.length + n) cap, ⟨(ho b (Ne.symm hgb)).trans hbk, ?_, fun e => hgb (by simpa [blk] using e)⟩, fun k hk => ?_, ?_⟩
  · exact ⟨by simp, .inr ⟨g, cap, cur', by rw [hl], Nat.zero_le _, hg', by omega, hcm, by simpa using hsz, by rw [hl, Nat.mul_one]; exact htk⟩⟩
  · obtain rfl : g = k := by simpa [blk] using hk
    exact hvo
  · refine ⟨hos.1.trans hbel.os, hos.2.1.trans hbel.tape, hos.2.2.trans hbel.output, by rw [hs]; exact hbel.size, fun k hk hW => ?_⟩
    rw [ho k, hbel.block k hk fun e => hW (.inl e)]
    rintro rfl
    rcases hvo with h | h
    · exact hW (.inr h)
    · omega
theorem wrt_row {w W1 : World} {b g cap n : Nat} {lr : Int} {vo : Option Nat} {old news : List Value} {cur : Array Value} (hbk : W1.heap[b]? = some (.cells #[.slice (some ⟨g, 0, none⟩) (old.length + n) cap, .int .i64 0, .int .i8 lr] T (0, 0)))
    (hg : W1.heap[g]? = some (.cells cur 5 (0, 0))) (hnc : old.length + n ≤ cap) (hcm : cap ≤ maxLen) (hcs : cur.size = cap) (htk : cur.toList.take old.length = old) (hgb : g ≠ b) (hvo : vo = some g ∨ w.heap.size ≤ g) (hbel : BelowW (fun k => k = b) w W1) (hn : news.length = n) :
    Wrt T w (W1.setRow g (cur.toList.take old.length ++ news ++ cur.toList.drop (old.length + n)).toArray) b vo lr (old ++ news) := by
  have hl : (cur.toList.take old.length).length = old.length := by rw [htk]
  refine wrt_mk hbk hnc hcm hgb hvo hbel hn (setRow_heap W1 g cur _ 5 (0, 0) hg) ?_ ?_ (fun k hk => setRow_other _ _ _ _ hk) (by simp) ⟨rfl, rfl, rfl⟩
  · have : cur.toList.length = cur.size := Array.length_toList
    simp only [List.size_toArray, List.length_append, hl, List.length_drop]; omega
  · rw [List.toList_toArray, List.take_append_of_le_length (by rw [List.length_append, hl, hn]; exact Nat.le_refl _), List.take_of_length_le (by rw [List.length_append, hl, hn]; exact Nat.le_refl _), htk]
theorem wrt_poke {w W1 : World} {b g cap : Nat} {lr : Int} {vo : Option Nat} {old : List Value} {v : Value} {cur : Array Value} (hbk : W1.heap[b]? = some (.cells #[.slice (some ⟨g, 0, none⟩) (old.length + 1) cap, .int .i64 0, .int .i8 lr] T (0, 0)))
    (hg : W1.heap[g]? = some (.cells cur 5 (0, 0))) (hnc : old.length + 1 ≤ cap) (hcm : cap ≤ maxLen) (hcs : cur.size = cap) (htk : cur.toList.take old.length = old) (hgb : g ≠ b) (hvo : vo = some g ∨ w.heap.size ≤ g) (hbel : BelowW (fun k => k = b) w W1) :
    Wrt T w (W1.setCell ⟨g, old.length, none⟩ v) b vo lr (old ++ [v]) := by
  have hll : old.length < cur.toList.length := by have : cur.toList.length = cur.size := Array.length_toList; omega
  refine wrt_mk hbk hnc hcm hgb hvo hbel rfl (set_heap (j := old.length) hg v) (by simpa using hcs) ?_ (fun k hk => Below.heap_setCell _ _ _ _ hk) (by simp [World.setCell]) ⟨rfl, rfl, rfl⟩
  rw [Array.toList_setIfInBounds, List.take_add_one, List.take_set_of_le (Nat.le_refl _), List.getElem?_set_self hll, htk]
  rfl
theorem size5 : (Tryd.prog.info? 5).map (·.size) = some 1 := by
  obtain ⟨i0, hi, -, hz1, -⟩ := info_parts bytes5
  rw [hi]; simp [hz1]
set_option maxHeartbeats 12800000 in
/-- WriteString, of a string that isn't empty. -/
theorem WriteString_bf (b : Nat) (s : ByteArray) (v : Value) (lr : Int) (l : List Value) (w : World) (h : BfAt T w b v lr l) (h1 : ∀ v ∈ l, v.oneCell' = true) (hs : 1 ≤ s.size) (hlim : l.length + s.size ≤ 140737488355328) :
    Calls Tryd.prog 26 #[.pointer (some ⟨b, 0, none⟩), .string s] w fun e w' => e = .returned (.tuple #[.int .i64 s.size, .nilIface]) ∧ Wrt T w w' b (blk v) 0 (l ++ Lib.byteCells s.data.toList) := by
  have mixed := followsM
  have c2 : w.cell? ⟨b, 2, none⟩ = some (.int .i8 lr) := by rw [Lib.cell_of_heap h.heap]; rfl
  have f2 : w.frozen? ⟨b, 2, none⟩ = false := Lib.frozen_of_heap h.heap 2
  have h' := h.last 0
  have hnl : (Lib.byteCells s.data.toList).length = s.size := by rw [Lib.byteCells_length, ← Lib.size_eq]
  have h := Lib.hid h
  go_enter Tryd.func26, Tryd.ntmps26
  go_wp2_with (go_at_call 58; refine (bf_try (T := T) (v := v) (lr := 0) (l := l) s.size ?_ hs).mono ?_)
  · exact h'
  rintro e W1 (⟨rfl, g, cap, cur, hbk2, hg, hnc, hcm, hcs, htk, hgb, hvo, hbel⟩ | ⟨rfl, rfl, hnr⟩)
  · clear h' c2 f2
    have d0 : W1.cell? ⟨b, 0, none⟩ = some (.slice (some ⟨g, 0, none⟩) (l.length + s.size) cap) := by rw [Lib.cell_of_heap hbk2]; rfl
    have hne : ¬ cap = l.length := by omega
    have hcp := Lib.run_copy_row_string (P := Tryd.prog) W1 25 9 3 5 g l.length s.size (cap - l.length) s cur 5 Tryd.underlying25 size5 hg (Nat.le_refl _) (by omega)
    have hcm' := hcm
    unfold maxLen at hcm'
    have H1 := Lib.hid hbel
    have H2 := Lib.hid hvo
    have H3 := Lib.hid htk
    clear hbel hvo htk
    go_wp2
    go_ret2
    refine ⟨rfl, ?_⟩
    have r := Wrt.pre (wrt_row (news := Lib.byteCells s.data.toList) hbk2 hg hnc hcm hcs H3.out hgb H2.out H1.out hnl)
    simpa using r
  · go_wp2_with (go_at_call 59; refine (bf_grow (T := T) (v := v) (lr := 0) (l := l) s.size ?_ hs ?_ h1 hlim).mono ?_)
    · exact h'
    · exact hnr
    rintro e W1 ⟨rfl, g, cap, cur, hbk2, hg, hnc, hcm, hcs, htk, hgb, hvo, hbel⟩
    clear h' c2 f2 hnr
    have d0 : W1.cell? ⟨b, 0, none⟩ = some (.slice (some ⟨g, 0, none⟩) (l.length + s.size) cap) := by rw [Lib.cell_of_heap hbk2]; rfl
    have hne : ¬ cap = l.length := by omega
    have hcp := Lib.run_copy_row_string (P := Tryd.prog) W1 25 9 3 5 g l.length s.size (cap - l.length) s cur 5 Tryd.underlying25 size5 hg (Nat.le_refl _) (by omega)
    have hcm' := hcm
    unfold maxLen at hcm'
    have H1 := Lib.hid hbel
    have H2 := Lib.hid hvo
    have H3 := Lib.hid htk
    clear hbel hvo htk
    go_wp2
    go_ret2
    refine ⟨rfl, ?_⟩
    have r := Wrt.pre (wrt_row (news := Lib.byteCells s.data.toList) hbk2 hg hnc hcm hcs H3.out hgb H2.out H1.out hnl)
    simpa using r
set_option maxHeartbeats 12800000 in
/-- Write, of bytes that aren't none. -/
theorem Write_bf (b : Nat) (cs : List Value) (a : Addr) (n c : Nat) (v : Value) (lr : Int) (l : List Value) (w : World) (h : BfAt T w b v lr l) (h1 : ∀ v ∈ l, v.oneCell' = true) (hn : cs.length = n) (hs : 1 ≤ n) (hab : a.block ≠ b) (hsrc : ∀ j v, cs[j]? = some v → w.cell? (a.add j) = some v) (h1c : ∀ v ∈ cs, v.oneCell' = true) (hlim : l.length + n ≤ 140737488355328) :
    Calls Tryd.prog 30 #[.pointer (some ⟨b, 0, none⟩), .slice (some a) n c] w fun e w' => e = .returned (.tuple #[.int .i64 n, .nilIface]) ∧ Wrt T w w' b (blk v) 0 (l ++ cs) := by
  have mixed := followsM
  have c2 : w.cell? ⟨b, 2, none⟩ = some (.int .i8 lr) := by rw [Lib.cell_of_heap h.heap]; rfl
  have f2 : w.frozen? ⟨b, 2, none⟩ = false := Lib.frozen_of_heap h.heap 2
  have h' := h.last 0
  have ha : a.block < w.heap.size := by
    cases hc : cs[0]? with
    | none => rw [List.getElem?_eq_none_iff] at hc; omega
    | some q =>
      have := hsrc 0 q hc
      rcases Nat.lt_or_ge a.block w.heap.size with h | h
      · exact h
      · simp [World.cell?, Addr.add, Array.getElem?_eq_none (show w.heap.size ≤ a.block from h)] at this
  have hrd : ∀ W1 : World, BelowW (fun k => k = b) (w.setCell ⟨b, 2, none⟩ (.int .i8 0)) W1 → ∀ j v, cs[j]? = some v → W1.cell? (a.add j) = some v := fun W1 hb j v hj => by
    refine (World.cell?_of_block (a := a.add j) ?_).trans (hsrc j v hj)
    show W1.heap[(a.add j).block]? = w.heap[(a.add j).block]?
    rw [Lib.block_add, hb.block _ (by simpa [World.setCell] using ha) hab]
    exact Below.heap_setCell _ _ _ _ hab
  have h := Lib.hid h
  have HS := Lib.hid hsrc
  clear hsrc
  have HR := Lib.hid hrd
  clear hrd
  go_enter Tryd.func30, Tryd.ntmps30
  go_wp2_with (go_at_call 58; refine (bf_try (T := T) (v := v) (lr := 0) (l := l) n ?_ hs).mono ?_)
  · exact h'
  rintro e W1 (⟨rfl, g, cap, cur, hbk2, hg, hnc, hcm, hcs, htk, hgb, hvo, hbel⟩ | ⟨rfl, rfl, hnr⟩)
  · clear h' c2 f2
    have d0 : W1.cell? ⟨b, 0, none⟩ = some (.slice (some ⟨g, 0, none⟩) (l.length + n) cap) := by rw [Lib.cell_of_heap hbk2]; rfl
    have hne : ¬ cap = l.length := by omega
    have hcp := run_copy_row (P := Tryd.prog) W1 25 25 3 5 g l.length n (cap - l.length) a n c cur 5 cs Tryd.underlying25 size5 hg (by rw [hn]; exact (Nat.min_self n).symm) (HR.out W1 hbel) (by rw [hn]; omega) h1c
    rw [hn] at hcp
    have hcm' := hcm
    unfold maxLen at hcm'
    have H1 := Lib.hid hbel
    have H2 := Lib.hid hvo
    have H3 := Lib.hid htk
    clear hbel hvo htk
    go_wp2
    go_ret2
    refine ⟨rfl, ?_⟩
    have r := Wrt.pre (wrt_row (news := cs) hbk2 hg hnc hcm hcs H3.out hgb H2.out H1.out hn)
    simpa using r
  · go_wp2_with (go_at_call 59; refine (bf_grow (T := T) (v := v) (lr := 0) (l := l) n ?_ hs ?_ h1 hlim).mono ?_)
    · exact h'
    · exact hnr
    rintro e W1 ⟨rfl, g, cap, cur, hbk2, hg, hnc, hcm, hcs, htk, hgb, hvo, hbel⟩
    clear h' c2 f2 hnr
    have d0 : W1.cell? ⟨b, 0, none⟩ = some (.slice (some ⟨g, 0, none⟩) (l.length + n) cap) := by rw [Lib.cell_of_heap hbk2]; rfl
    have hne : ¬ cap = l.length := by omega
    have hcp := run_copy_row (P := Tryd.prog) W1 25 25 3 5 g l.length n (cap - l.length) a n c cur 5 cs Tryd.underlying25 size5 hg (by rw [hn]; exact (Nat.min_self n).symm) (HR.out W1 hbel) (by rw [hn]; omega) h1c
    rw [hn] at hcp
    have hcm' := hcm
    unfold maxLen at hcm'
    have H1 := Lib.hid hbel
    have H2 := Lib.hid hvo
    have H3 := Lib.hid htk
    clear hbel hvo htk
    go_wp2
    go_ret2
    refine ⟨rfl, ?_⟩
    have r := Wrt.pre (wrt_row (news := cs) hbk2 hg hnc hcm hcs H3.out hgb H2.out H1.out hn)
    simpa using r
set_option maxHeartbeats 12800000 in
/-- WriteByte. -/
theorem WriteByte_bf (b : Nat) (c : Int) (v : Value) (lr : Int) (l : List Value) (w : World) (h : BfAt T w b v lr l) (h1 : ∀ v ∈ l, v.oneCell' = true) (hlim : l.length + 1 ≤ 140737488355328) :
    Calls Tryd.prog 31 #[.pointer (some ⟨b, 0, none⟩), .int .u8 c] w fun e w' => e = .returned .nilIface ∧ Wrt T w w' b (blk v) 0 (l ++ [.int .u8 c]) := by
  have mixed := followsM
  have c2 : w.cell? ⟨b, 2, none⟩ = some (.int .i8 lr) := by rw [Lib.cell_of_heap h.heap]; rfl
  have f2 : w.frozen? ⟨b, 2, none⟩ = false := Lib.frozen_of_heap h.heap 2
  have h' := h.last 0
  have hT := fun (W : World) (hW : BfAt T W b v 0 l) => bf_try 1 hW (Nat.le_refl _)
  have hG := fun (W : World) (hW : BfAt T W b v 0 l) (hn : NoR W b v l 1) => bf_grow 1 hW (Nat.le_refl _) hn h1 hlim
  have h := Lib.hid h
  go_enter Tryd.func31, Tryd.ntmps31
  go_wp2_with (go_at_call 58; refine (hT _ ?_).mono ?_)
  · exact h'
  rintro e W1 (⟨rfl, g, cap, cur, hbk2, hg, hnc, hcm, hcs, htk, hgb, hvo, hbel⟩ | ⟨rfl, rfl, hnr⟩)
  · clear h' c2 f2 hT hG
    have d0 : W1.cell? ⟨b, 0, none⟩ = some (.slice (some ⟨g, 0, none⟩) (l.length + 1) cap) := by rw [Lib.cell_of_heap hbk2]; rfl
    have hlt : l.length < cur.size := by omega
    have dg : W1.cell? ⟨g, l.length, none⟩ = some cur[l.length] := by rw [Lib.cell_of_heap hg, Array.getElem?_eq_getElem hlt]
    have fg : W1.frozen? ⟨g, l.length, none⟩ = false := Lib.frozen_of_heap hg _
    have hcm' := hcm
    unfold maxLen at hcm'
    have H1 := Lib.hid hbel
    have H2 := Lib.hid hvo
    have H3 := Lib.hid htk
    clear hbel hvo htk
    go_wp2
    go_ret
    exact ⟨rfl, Wrt.pre (wrt_poke hbk2 hg hnc hcm hcs H3.out hgb H2.out H1.out)⟩
  · go_wp2_with (go_at_call 59; refine (hG _ ?_ ?_).mono ?_)
    · exact h'
    · exact hnr
    rintro e W1 ⟨rfl, g, cap, cur, hbk2, hg, hnc, hcm, hcs, htk, hgb, hvo, hbel⟩
    clear h' c2 f2 hT hG hnr
    have d0 : W1.cell? ⟨b, 0, none⟩ = some (.slice (some ⟨g, 0, none⟩) (l.length + 1) cap) := by rw [Lib.cell_of_heap hbk2]; rfl
    have hlt : l.length < cur.size := by omega
    have dg : W1.cell? ⟨g, l.length, none⟩ = some cur[l.length] := by rw [Lib.cell_of_heap hg, Array.getElem?_eq_getElem hlt]
    have fg : W1.frozen? ⟨g, l.length, none⟩ = false := Lib.frozen_of_heap hg _
    have hcm' := hcm
    unfold maxLen at hcm'
    have H1 := Lib.hid hbel
    have H2 := Lib.hid hvo
    have H3 := Lib.hid htk
    clear hbel hvo htk
    go_wp2
    go_ret
    exact ⟨rfl, Wrt.pre (wrt_poke hbk2 hg hnc hcm hcs H3.out hgb H2.out H1.out)⟩
set_option maxHeartbeats 12800000 in
/-- Write, of no byte. -/
theorem Write_bf0 (b : Nat) (ao : Option Addr) (c : Nat) (v : Value) (lr : Int) (l : List Value) (w : World) (h : BfAt T w b v lr l) :
    Calls Tryd.prog 30 #[.pointer (some ⟨b, 0, none⟩), .slice ao 0 c] w fun e w' => e = .returned (.tuple #[.int .i64 0, .nilIface]) ∧ Wrt T w w' b (blk v) 0 l := by
  have mixed := followsM
  have c2 : w.cell? ⟨b, 2, none⟩ = some (.int .i8 lr) := by rw [Lib.cell_of_heap h.heap]; rfl
  have f2 : w.frozen? ⟨b, 2, none⟩ = false := Lib.frozen_of_heap h.heap 2
  have h' := h.last 0
  have hce : ∀ d dLen dCap W, (Builtin.copy_ #[25, 25] 3 #[.slice d dLen dCap, .slice ao 0 c]).run Tryd.prog W = .ok (goInt 0) W := fun d dLen dCap W => run_copy_none W 25 25 3 5 d ao dLen dCap 0 c Tryd.underlying25 size5 (by simp)
  have hend : ∀ W1 : World, BfAt T W1 b v 0 l → BelowW (fun k => k = b) (w.setCell ⟨b, 2, none⟩ (.int .i8 0)) W1 → Wrt T w W1 b (blk v) 0 l := fun W1 hW hb => Wrt.pre ⟨v, hW, fun k hk => .inl hk, bw_sub hb fun k hk => .inl hk⟩
  rcases h'.cases with ⟨h2, h3⟩ | ⟨g, cap, cur, h3, hg, hlc, hcm, hcs, htk, hgb⟩
  · subst h2 h3
    have hT : ∀ W : World, BfAt T W b (.slice none 0 0) 0 [] → Calls Tryd.prog 58 #[.pointer (some ⟨b, 0, none⟩), .int .i64 0] W _ := fun W hW => Tryd.Buffer_tryGrow_room b none 0 0 0 W (by rw [Lib.cell_of_heap hW.heap]; rfl) (Lib.frozen_of_heap hW.heap 0) (Nat.le_refl _) (Nat.zero_le _) (Nat.le_refl _)
    have h := Lib.hid h
    have hend := Lib.hid hend
    go_enter Tryd.func30, Tryd.ntmps30
    go_wp2_with (go_at_call 58; refine (hT _ ?_).mono ?_)
    · exact h'
    rintro e W1 ⟨rfl, rfl⟩
    have hB : BfAt T ((w.setCell ⟨b, 2, none⟩ (.int .i8 0)).setCell ⟨b, 0, none⟩ (.slice none 0 0)) b (.slice none 0 0) 0 [] := ⟨(set_heap (j := 0) h'.heap _).trans (by simp), World.ownsRow_nil _ _ _ _, by simp [blk]⟩
    have hL := Lib.hid (bw_set (W := fun k => k = b) (BelowW.refl (w.setCell ⟨b, 2, none⟩ (.int .i8 0))) (p := ⟨b, 0, none⟩) (.inl rfl) (.slice none 0 0))
    generalize hw1 : (w.setCell ⟨b, 2, none⟩ (.int .i8 0)).setCell ⟨b, 0, none⟩ (.slice none 0 0) = W1 at *
    have d0 : W1.cell? ⟨b, 0, none⟩ = some (.slice none 0 0) := by rw [Lib.cell_of_heap hB.heap]; rfl
    clear hw1 hT h' c2 f2
    go_wp2
    all_goals (go_ret2; exact ⟨rfl, hend.out _ hB hL.out⟩)
  · subst h3
    have hT : ∀ W : World, BfAt T W b (.slice (some ⟨g, 0, none⟩) l.length cap) 0 l → Calls Tryd.prog 58 #[.pointer (some ⟨b, 0, none⟩), .int .i64 0] W _ := fun W hW => Tryd.Buffer_tryGrow_room b (some ⟨g, 0, none⟩) l.length cap 0 W (by rw [Lib.cell_of_heap hW.heap]; rfl) (Lib.frozen_of_heap hW.heap 0) hlc hcm (Nat.zero_le _)
    have h := Lib.hid h
    have hend := Lib.hid hend
    go_enter Tryd.func30, Tryd.ntmps30
    go_wp2_with (go_at_call 58; refine (hT _ ?_).mono ?_)
    · exact h'
    rintro e W1 ⟨rfl, rfl⟩
    have hB : BfAt T ((w.setCell ⟨b, 2, none⟩ (.int .i8 0)).setCell ⟨b, 0, none⟩ (.slice (some ⟨g, 0, none⟩) (l.length + 0) cap)) b (.slice (some ⟨g, 0, none⟩) l.length cap) 0 l := ⟨(set_heap (j := 0) h'.heap _).trans (by simp), ⟨by simp, .inr ⟨g, cap, cur, rfl, Nat.zero_le _, (Below.heap_setCell _ _ _ _ hgb).trans hg, hlc, hcm, by simpa using hcs, by simpa using htk⟩⟩, h'.ne⟩
    have hL := Lib.hid (bw_set (W := fun k => k = b) (BelowW.refl (w.setCell ⟨b, 2, none⟩ (.int .i8 0))) (p := ⟨b, 0, none⟩) (.inl rfl) (.slice (some ⟨g, 0, none⟩) (l.length + 0) cap))
    generalize hw1 : (w.setCell ⟨b, 2, none⟩ (.int .i8 0)).setCell ⟨b, 0, none⟩ (.slice (some ⟨g, 0, none⟩) (l.length + 0) cap) = W1 at *
    have d0 : W1.cell? ⟨b, 0, none⟩ = some (.slice (some ⟨g, 0, none⟩) l.length cap) := by rw [Lib.cell_of_heap hB.heap]; rfl
    clear hw1 hT h' c2 f2 hg
    unfold maxLen at hcm
    go_wp2
    all_goals (go_ret2; exact ⟨rfl, hend.out _ hB hL.out⟩)
set_option maxHeartbeats 6400000 in
/-- Bytes. -/
theorem Bytes_bf (b : Nat) (v : Value) (lr : Int) (l : List Value) (w : World) (h : BfAt T w b v lr l) :
    Calls Tryd.prog 33 #[.pointer (some ⟨b, 0, none⟩)] w fun e w' => e = .returned v ∧ ∃ n, w' = w.drewN n := by
  have mixed := followsM
  have c0 : w.cell? ⟨b, 0, none⟩ = some v := by rw [Lib.cell_of_heap h.heap]; rfl
  have c1 : w.cell? ⟨b, 1, none⟩ = some (.int .i64 0) := by rw [Lib.cell_of_heap h.heap]; rfl
  rcases h.cases with ⟨h2, h3⟩ | ⟨g, cap, cur, h3, hg, hlc, hcm, hcs, htk, hgb⟩
  · subst h2 h3
    go_enter Tryd.func33, Tryd.ntmps33
    go_wp2
    go_region_o
    all_goals (go_wp2; go_ret; exact ⟨rfl, 1, rfl⟩)
  · subst h3
    clear hg
    unfold maxLen at hcm
    go_enter Tryd.func33, Tryd.ntmps33
    go_wp2
    go_region_o
    all_goals (go_wp2; go_ret; exact ⟨rfl, 1, rfl⟩)
/-- Len. -/
theorem Len_bf (b : Nat) (v : Value) (lr : Int) (l : List Value) (w : World) (h : BfAt T w b v lr l) :
    Calls Tryd.prog 32 #[.pointer (some ⟨b, 0, none⟩)] w fun e w' => e = .returned (.int .i64 l.length) ∧ ∃ n, w' = w.drewN n := by
  rcases h.cases with ⟨h2, h3⟩ | ⟨g, cap, cur, h3, hg, hlc, hcm, hcs, htk, hgb⟩
  · subst h2 h3
    exact Len_any b none 0 0 lr w h.heap (Nat.zero_le _)
  · subst h3
    exact Len_any b _ l.length cap lr w h.heap (Nat.le_trans hlc hcm)
end Go.Proofs.YtajlhhejblpfcaaDoor.Lx
