/- A contract of the library or of a function, by hand. -/
import Derived.Test.YtajlhhejblpfcaaDoorPPpHBdF
import Derived.Lib.BufferWrite
import Derived.Deep.RegionWith
import Derived.Deep.Draws
import Derived.BigCall
import Derived.BigGuard
import Derived.RegionTactic
set_option linter.unusedVariables false
set_option linter.unusedSimpArgs false
set_option maxRecDepth 100000
namespace Go.Proofs.YtajlhhejblpfcaaDoor.Lx
open Go Go.RowKit Go.Pv
variable {T : TypeId}
/-- A buffer in a world: its block, its row, what it holds. -/
structure BfAt (T : TypeId) (w : World) (b : Nat) (v : Value) (lr : Int) (l : List Value) : Prop where
  heap : w.heap[b]? = some (.cells #[v, .int .i64 0, .int .i8 lr] T (0, 0))
  own : w.ownsRow 0 5 1 v l.length l
  ne : blk v ≠ some b
theorem BfAt.lt {w : World} {b : Nat} {v : Value} {lr : Int} {l : List Value} (h : BfAt T w b v lr l) : b < w.heap.size := (Array.getElem?_eq_some_iff.1 h.heap).1
/-- Behind growing: the row, with room for what comes. -/
def Rdy (T : TypeId) (w w' : World) (b : Nat) (lr : Int) (l n : Nat) (old : List Value) (vo : Option Nat) : Prop :=
  ∃ g cap cur, w'.heap[b]? = some (.cells #[.slice (some ⟨g, 0, none⟩) (l + n) cap, .int .i64 0, .int .i8 lr] T (0, 0)) ∧ w'.heap[g]? = some (.cells cur 5 (0, 0)) ∧ l + n ≤ cap ∧ cap ≤ maxLen ∧ cur.size = cap ∧ cur.toList.take l = old ∧ g ≠ b ∧ (vo = some g ∨ w.heap.size ≤ g) ∧ BelowW (fun k => k = b) w w'
theorem bytes5 : (Tryd.prog.info? 5).map (fun i => (i.zero, i.size, i.bytes)) = some (some (.int .u8 0), 1, 1) := by kernel_rfl
theorem followsM : Tryd.prog.follows .mixedOrders = true := by kernel_rfl
theorem lt_heap {w : World} {b : Nat} {o : Obj} (h : w.heap[b]? = some o) : b < w.heap.size := (Array.getElem?_eq_some_iff.1 h).1
set_option maxHeartbeats 6400000 in
theorem Len_any (b : Nat) (ao : Option Addr) (n cap : Nat) (lr : Int) (w : World) (hbk : w.heap[b]? = some (.cells #[.slice ao n cap, .int .i64 0, .int .i8 lr] T (0, 0))) (hn : n ≤ maxLen) :
    Calls Tryd.prog 32 #[.pointer (some ⟨b, 0, none⟩)] w fun e w' => e = .returned (.int .i64 n) ∧ ∃ k, w' = w.drewN k := by
  have mixed := followsM
  have c0 : w.cell? ⟨b, 0, none⟩ = some (.slice ao n cap) := by rw [Lib.cell_of_heap hbk]; rfl
  have c1 : w.cell? ⟨b, 1, none⟩ = some (.int .i64 0) := by rw [Lib.cell_of_heap hbk]; rfl
  unfold maxLen at hn
  go_enter Tryd.func32, Tryd.ntmps32
  go_wp2
  go_region_o
  all_goals (go_wp2; go_ret; exact ⟨rfl, 1, rfl⟩)
set_option maxHeartbeats 6400000 in
theorem grow_nil_small (b n : Nat) (lr : Int) (w : World) (hbk : w.heap[b]? = some (.cells #[.slice none 0 0, .int .i64 0, .int .i8 lr] T (0, 0))) (hn : 1 ≤ n) (h64 : n ≤ 64) :
    Calls Tryd.prog 59 #[.pointer (some ⟨b, 0, none⟩), .int .i64 n] w fun e w' => e = .returned (.int .i64 0) ∧ Rdy T w w' b lr 0 n [] none := by
  have mixed := followsM
  obtain ⟨i0, hi, hz0, hz1, hz2⟩ := info_parts bytes5
  obtain ⟨M, hM⟩ : ∃ M, M = madeCells (Value.int .u8 0).cells ((64 : Int).toNat * i0.size) := ⟨_, rfl⟩
  have hMs : M.size = 64 := by rw [hM, size_madeCells, hz1]; rfl
  have hmk : ∀ W : World, (Instr.makeSlice 25 (.int .i64 (n : Int)) (.int .i64 64)).run Tryd.prog W = .ok (.slice (some ⟨W.heap.size, 0, none⟩) n 64) (W.alloc (.cells M 5)) := fun W => by
    have h := run_makeSlice (P := Tryd.prog) W 25 5 i0 (.int .u8 0) Tryd.underlying25 hi hz0 .i64 .i64 (n : Int) 64 (by omega) (by omega) (by rw [hz1]; decide) (by rw [hz2]; decide) (by decide)
    rw [← hM] at h
    simpa using h
  clear hM
  have hnil : ∀ W, (binOp .eql 25 (.slice none 0 0) (.slice none 0 0)).run Tryd.prog W = .ok (.bool true) W := fun W => Lib.run_eql_slice_nil_nil W _ _ Tryd.underlying25
  go_enter Tryd.func59, Tryd.ntmps59
  go_wp2_with (go_at_call 32; refine (Len_any (T := T) b none 0 0 lr _ ?_ (Nat.zero_le _)).mono ?_)
  · exact hbk
  rintro e W0 ⟨rfl, k, hW0⟩
  have hbk0 : W0.heap[b]? = some (.cells #[.slice none 0 0, .int .i64 0, .int .i8 lr] T (0, 0)) := by rw [hW0]; exact hbk
  have c0 : W0.cell? ⟨b, 0, none⟩ = some (.slice none 0 0) := by rw [Lib.cell_of_heap hbk0]; rfl
  have c1 : W0.cell? ⟨b, 1, none⟩ = some (.int .i64 0) := by rw [Lib.cell_of_heap hbk0]; rfl
  have f0 : W0.frozen? ⟨b, 0, none⟩ = false := Lib.frozen_of_heap hbk0 0
  have f1 : W0.frozen? ⟨b, 1, none⟩ = false := Lib.frozen_of_heap hbk0 1
  have hbW0 := lt_heap hbk0
  have c0a : ∀ o, (W0.alloc o).cell? ⟨b, 0, none⟩ = some (.slice none 0 0) := fun o => (World.cell?_of_block (a := ⟨b, 0, none⟩) (Below.heap_alloc W0 o b hbW0)).trans c0
  have f0a : ∀ o, (W0.alloc o).frozen? ⟨b, 0, none⟩ = false := fun o => (World.frozen?_of_block (a := ⟨b, 0, none⟩) (Below.heap_alloc W0 o b hbW0)).trans f0
  have HW0 := Lib.hid hW0
  clear hW0
  go_wp2_with (go_at_call 58; refine (Tryd.Buffer_tryGrow_none b _ 0 0 n _ c0 (Nat.le_refl _) (Nat.zero_le _) (by omega)).mono ?_; rintro e w' ⟨rfl, rfl⟩)
  go_ret
  have hsz0 : w'.heap.size = w.heap.size := by rw [HW0.out]; rfl
  have hh0 : w'.heap = w.heap := by rw [HW0.out]; rfl
  have hos : w'.os = w.os ∧ w'.tape = w.tape ∧ w'.output = w.output := by rw [HW0.out]; exact ⟨rfl, rfl, rfl⟩
  have hal : ∀ o, (w'.alloc o).heap[b]? = w'.heap[b]? := fun o => Below.heap_alloc w' o b hbW0
  have e1 : (w'.setCell ⟨b, 0, none⟩ (.slice (some ⟨w'.heap.size, 0, none⟩) n 64)).heap.size = w'.heap.size := by simp [World.setCell]
  refine ⟨rfl, w'.heap.size, 64, M, ?_, ?_, by omega, by unfold maxLen; omega, hMs, by simp, by omega, .inr (by omega), ?_⟩
  · refine (Below.heap_alloc _ _ b (by rw [e1]; exact hbW0)).trans ((set_heap (j := 0) hbk0 _).trans ?_)
    simp
  · have := heap_alloc_new (w'.setCell ⟨b, 0, none⟩ (.slice (some ⟨w'.heap.size, 0, none⟩) n 64)) (.cells M 5)
    rwa [e1] at this
  · refine ⟨hos.1, hos.2.1, hos.2.2, ?_, fun k hk hW => ?_⟩
    · simp [World.setCell]; omega
    · rw [Below.heap_alloc _ _ _ (by rw [e1]; omega), Below.heap_setCell _ _ _ _ hW, hh0]
theorem rdy_end {w w0 w2 : World} {b n l cap2 : Nat} {lr : Int} {old : List Value} {cells : Array Value} (hh0 : w0.heap = w.heap) (hos : w0.os = w.os ∧ w0.tape = w.tape ∧ w0.output = w.output) {v : Value} {vo : Option Nat}
    (hbk2 : w2.heap[b]? = some (.cells #[v, .int .i64 0, .int .i8 lr] T (0, 0))) (hN : w2.heap[w0.heap.size]? = some (.cells cells 5 (0, 0))) (hcsz : cells.size = cap2) (htk : cells.toList.take l = old) (hcap : l + n ≤ cap2) (hcm : cap2 ≤ maxLen) (hbel : Below w0.heap.size w0 w2) (hb : b < w0.heap.size) (u : Value) :
    Rdy T w (((w2.setCell ⟨b, 0, none⟩ u).setCell ⟨b, 1, none⟩ (.int .i64 0)).setCell ⟨b, 0, none⟩ (.slice (some ⟨w0.heap.size, 0, none⟩) (l + n) cap2)) b lr l n old vo := by
  have s1 := set_heap (j := 0) hbk2 u
  have s2 := set_heap (j := 1) s1 (.int .i64 0)
  have s3 := set_heap (j := 0) s2 (.slice (some ⟨w0.heap.size, 0, none⟩) (l + n) cap2)
  refine ⟨w0.heap.size, cap2, cells, s3.trans (by simp), ?_, hcap, hcm, hcsz, htk, by omega, .inr (by rw [hh0]; omega), ⟨hbel.os.trans hos.1, hbel.tape.trans hos.2.1, hbel.output.trans hos.2.2, ?_, fun k hk hW => ?_⟩⟩
  · rw [Below.heap_setCell _ _ _ _ (Nat.ne_of_gt hb), Below.heap_setCell _ _ _ _ (Nat.ne_of_gt hb), Below.heap_setCell _ _ _ _ (Nat.ne_of_gt hb)]
    exact hN
  · have := hbel.size
    rw [hh0] at this
    simpa [World.setCell] using this
  · rw [Below.heap_setCell _ _ _ _ hW, Below.heap_setCell _ _ _ _ hW, Below.heap_setCell _ _ _ _ hW, hbel.block k (by rw [hh0]; exact hk), hh0]
set_option maxHeartbeats 12800000 in
theorem grow_nil_big (b n : Nat) (lr : Int) (w : World) (hbk : w.heap[b]? = some (.cells #[.slice none 0 0, .int .i64 0, .int .i8 lr] T (0, 0))) (h64 : 64 < n) (hlim : n ≤ 140737488355328) :
    Calls Tryd.prog 59 #[.pointer (some ⟨b, 0, none⟩), .int .i64 n] w fun e w' => e = .returned (.int .i64 0) ∧ Rdy T w w' b lr 0 n [] none := by
  have mixed := followsM
  have hn : 1 ≤ n := by omega
  have hnil : ∀ W, (binOp .eql 25 (.slice none 0 0) (.slice none 0 0)).run Tryd.prog W = .ok (.bool true) W := fun W => Lib.run_eql_slice_nil_nil W _ _ Tryd.underlying25
  go_enter Tryd.func59, Tryd.ntmps59
  go_wp2_with (go_at_call 32; refine (Len_any (T := T) b none 0 0 lr _ ?_ (Nat.zero_le _)).mono ?_)
  · exact hbk
  rintro e W0 ⟨rfl, k, hW0⟩
  have hbk0 : W0.heap[b]? = some (.cells #[.slice none 0 0, .int .i64 0, .int .i8 lr] T (0, 0)) := by rw [hW0]; exact hbk
  have c0 : W0.cell? ⟨b, 0, none⟩ = some (.slice none 0 0) := by rw [Lib.cell_of_heap hbk0]; rfl
  have c1 : W0.cell? ⟨b, 1, none⟩ = some (.int .i64 0) := by rw [Lib.cell_of_heap hbk0]; rfl
  have f0 : W0.frozen? ⟨b, 0, none⟩ = false := Lib.frozen_of_heap hbk0 0
  have f1 : W0.frozen? ⟨b, 1, none⟩ = false := Lib.frozen_of_heap hbk0 1
  have HW0 := Lib.hid hW0
  clear hW0
  go_wp2_with (go_at_call 58; refine (Tryd.Buffer_tryGrow_none b _ 0 0 n _ c0 (Nat.le_refl _) (Nat.zero_le _) (by omega)).mono ?_; rintro e w' ⟨rfl, rfl⟩)
  have hbW := lt_heap hbk0
  have hwn : IntKind.i64.wrap (n : Int) = n := by rw [IntKind.wrap_i64]; omega
  go_region_with_o (
      go_at_call 74
      refine (Tryd.bytes_growSlice_nil n _ hn hlim).mono ?_
      rintro e w2 ⟨cap2, cells, rfl, hN, hcsz, hcap2, hcm2, hbel⟩
      have hbk2 : w2.heap[b]? = some (.cells #[.slice none 0 0, .int .i64 0, .int .i8 lr] T (0, 0)) := (hbel.block b hbW).trans hbk0
      have d0 : w2.cell? ⟨b, 0, none⟩ = some (.slice none 0 0) := by rw [Lib.cell_of_heap hbk2]; rfl
      have d1 : w2.cell? ⟨b, 1, none⟩ = some (.int .i64 0) := by rw [Lib.cell_of_heap hbk2]; rfl
      have e0 : w2.frozen? ⟨b, 0, none⟩ = false := Lib.frozen_of_heap hbk2 0
      have e1 : w2.frozen? ⟨b, 1, none⟩ = false := Lib.frozen_of_heap hbk2 1)
  all_goals (
    go_wp2
    go_ret
    have hh0 : w'.drew.heap = w.heap := by rw [HW0.out]; rfl
    have hos : w'.drew.os = w.os ∧ w'.drew.tape = w.tape ∧ w'.drew.output = w.output := by rw [HW0.out]; exact ⟨rfl, rfl, rfl⟩
    exact ⟨rfl, by simpa using rdy_end (l := 0) (n := n) (w0 := w'.drew) (vo := none) hh0 hos hbk2 hN hcsz (by simp) (by omega) hcm2 hbel hbW _⟩)
set_option maxHeartbeats 12800000 in
theorem grow_row0 (b g  cap n : Nat) (lr : Int) (cur : Array Value) (bs : List Value) (w : World)
    (hbk : w.heap[b]? = some (.cells #[.slice (some ⟨g, 0, none⟩) 0 cap, .int .i64 0, .int .i8 lr] T (0, 0)))
    (hl : bs.length = 0) (hg : w.heap[g]? = some (.cells cur 5 (0, 0))) (hlc : 0 ≤ cap) (hcm : cap ≤ maxLen) (hcs : cur.size = cap) (htake : cur.toList.take 0 = bs) (hgb : g ≠ b)
    (h1 : ∀ v ∈ bs, v.oneCell' = true) (hn : 1 ≤ n) (hroom : cap - 0 < n) (hlim : 0 + n ≤ 140737488355328) :
    Calls Tryd.prog 59 #[.pointer (some ⟨b, 0, none⟩), .int .i64 n] w fun e w' => e = .returned (.int .i64 0) ∧ Rdy T w w' b lr 0 n bs (some g) := by
  have mixed := followsM
  have hnil : ∀ W, (binOp .eql 25 (.slice (some ⟨g, 0, none⟩) 0 cap) (.slice none 0 0)).run Tryd.prog W = .ok (.bool false) W := fun W => Lib.run_eql_slice_some_nil W _ _ _ Tryd.underlying25
  go_enter Tryd.func59, Tryd.ntmps59
  go_wp2_with (go_at_call 32; refine (Len_any (T := T) b (some ⟨g, 0, none⟩) 0 cap lr _ ?_ (Nat.zero_le _)).mono ?_)
  · exact hbk
  rintro e W0 ⟨rfl, k, hW0⟩
  have hbk0 : W0.heap[b]? = some (.cells #[.slice (some ⟨g, 0, none⟩) 0 cap, .int .i64 0, .int .i8 lr] T (0, 0)) := by rw [hW0]; exact hbk
  have hg0 : W0.heap[g]? = some (.cells cur 5 (0, 0)) := by rw [hW0]; exact hg
  have c0 : W0.cell? ⟨b, 0, none⟩ = some (.slice (some ⟨g, 0, none⟩) 0 cap) := by rw [Lib.cell_of_heap hbk0]; rfl
  have c1 : W0.cell? ⟨b, 1, none⟩ = some (.int .i64 0) := by rw [Lib.cell_of_heap hbk0]; rfl
  have f0 : W0.frozen? ⟨b, 0, none⟩ = false := Lib.frozen_of_heap hbk0 0
  have f1 : W0.frozen? ⟨b, 1, none⟩ = false := Lib.frozen_of_heap hbk0 1
  have HW0 := Lib.hid hW0
  clear hW0
  have hcm' := hcm
  unfold maxLen at hcm'
  go_wp2_with (go_at_call 58; refine (Tryd.Buffer_tryGrow_none b _ 0 cap n _ c0 hlc hcm hroom).mono ?_; rintro e w' ⟨rfl, rfl⟩)
  have hc2 : cap ≤ 140737488355328 := by omega
  have h1' : ∀ v ∈ cur.toList.take 0, v.oneCell' = true := by rw [htake]; exact h1
  have hbW := lt_heap hbk0
  have hwn : IntKind.i64.wrap (n : Int) = n := by rw [IntKind.wrap_i64]; omega
  go_region_with_o (
      go_at_call 74
      refine (Tryd.bytes_growSlice_row g 0 cap n cur _ ?_ hcs hlc hn hlim hc2 h1').mono ?_
      exact hg0
      rintro e w2 ⟨cap2, cells, rfl, hN, hcsz, htk, hcap2, hcm2, hbel⟩
      have hbk2 : w2.heap[b]? = some (.cells #[.slice (some ⟨g, 0, none⟩) 0 cap, .int .i64 0, .int .i8 lr] T (0, 0)) := (hbel.block b hbW).trans hbk0
      have d0 : w2.cell? ⟨b, 0, none⟩ = some (.slice (some ⟨g, 0, none⟩) 0 cap) := by rw [Lib.cell_of_heap hbk2]; rfl
      have d1 : w2.cell? ⟨b, 1, none⟩ = some (.int .i64 0) := by rw [Lib.cell_of_heap hbk2]; rfl
      have e0 : w2.frozen? ⟨b, 0, none⟩ = false := Lib.frozen_of_heap hbk2 0
      have e1 : w2.frozen? ⟨b, 1, none⟩ = false := Lib.frozen_of_heap hbk2 1)
  all_goals (
    go_wp2
    go_ret
    have hh0 : w'.drew.heap = w.heap := by rw [HW0.out]; rfl
    have hos : w'.drew.os = w.os ∧ w'.drew.tape = w.tape ∧ w'.drew.output = w.output := by rw [HW0.out]; exact ⟨rfl, rfl, rfl⟩
    exact ⟨rfl, by simpa using rdy_end (l := 0) (n := n) (w0 := w'.drew) (vo := some g) hh0 hos hbk2 hN hcsz (htk.trans htake) hcap2 hcm2 hbel hbW _⟩)
set_option maxHeartbeats 12800000 in
theorem grow_rowl (b g l cap n : Nat) (lr : Int) (cur : Array Value) (bs : List Value) (w : World)
    (hbk : w.heap[b]? = some (.cells #[.slice (some ⟨g, 0, none⟩) l cap, .int .i64 0, .int .i8 lr] T (0, 0)))
    (hl : bs.length = l) (hg : w.heap[g]? = some (.cells cur 5 (0, 0))) (hlc : l ≤ cap) (hcm : cap ≤ maxLen) (hcs : cur.size = cap) (htake : cur.toList.take l = bs) (hgb : g ≠ b)
    (h1 : ∀ v ∈ bs, v.oneCell' = true) (hn : 1 ≤ n) (hroom : cap - l < n) (hlim : l + n ≤ 140737488355328) :
    Calls Tryd.prog 59 #[.pointer (some ⟨b, 0, none⟩), .int .i64 n] w fun e w' => e = .returned (.int .i64 l) ∧ Rdy T w w' b lr l n bs (some g) := by
  have mixed := followsM
  by_cases hl0 : l = 0
  · subst hl0
    exact grow_row0 b g cap n lr cur bs w hbk hl hg hlc hcm hcs htake hgb h1 hn hroom hlim
  have hnil : ∀ W, (binOp .eql 25 (.slice (some ⟨g, 0, none⟩) l cap) (.slice none 0 0)).run Tryd.prog W = .ok (.bool false) W := fun W => Lib.run_eql_slice_some_nil W _ _ _ Tryd.underlying25
  go_enter Tryd.func59, Tryd.ntmps59
  go_wp2_with (go_at_call 32; refine (Len_any (T := T) b (some ⟨g, 0, none⟩) l cap lr _ ?_ (Nat.le_trans hlc hcm)).mono ?_)
  · exact hbk
  rintro e W0 ⟨rfl, k, hW0⟩
  have hbk0 : W0.heap[b]? = some (.cells #[.slice (some ⟨g, 0, none⟩) l cap, .int .i64 0, .int .i8 lr] T (0, 0)) := by rw [hW0]; exact hbk
  have hg0 : W0.heap[g]? = some (.cells cur 5 (0, 0)) := by rw [hW0]; exact hg
  have c0 : W0.cell? ⟨b, 0, none⟩ = some (.slice (some ⟨g, 0, none⟩) l cap) := by rw [Lib.cell_of_heap hbk0]; rfl
  have c1 : W0.cell? ⟨b, 1, none⟩ = some (.int .i64 0) := by rw [Lib.cell_of_heap hbk0]; rfl
  have f0 : W0.frozen? ⟨b, 0, none⟩ = false := Lib.frozen_of_heap hbk0 0
  have f1 : W0.frozen? ⟨b, 1, none⟩ = false := Lib.frozen_of_heap hbk0 1
  have HW0 := Lib.hid hW0
  clear hW0
  have hcm' := hcm
  unfold maxLen at hcm'
  go_wp2_with (go_at_call 58; refine (Tryd.Buffer_tryGrow_none b _ l cap n _ c0 hlc hcm hroom).mono ?_; rintro e w' ⟨rfl, rfl⟩)
  have hc2 : cap ≤ 140737488355328 := by omega
  have h1' : ∀ v ∈ cur.toList.take l, v.oneCell' = true := by rw [htake]; exact h1
  have hbW := lt_heap hbk0
  have hwn : IntKind.i64.wrap (n : Int) = n := by rw [IntKind.wrap_i64]; omega
  go_region_with_o (
      go_at_call 74
      refine (Tryd.bytes_growSlice_row g l cap n cur _ ?_ hcs hlc hn hlim hc2 h1').mono ?_
      exact hg0
      rintro e w2 ⟨cap2, cells, rfl, hN, hcsz, htk, hcap2, hcm2, hbel⟩
      have hbk2 : w2.heap[b]? = some (.cells #[.slice (some ⟨g, 0, none⟩) l cap, .int .i64 0, .int .i8 lr] T (0, 0)) := (hbel.block b hbW).trans hbk0
      have d0 : w2.cell? ⟨b, 0, none⟩ = some (.slice (some ⟨g, 0, none⟩) l cap) := by rw [Lib.cell_of_heap hbk2]; rfl
      have d1 : w2.cell? ⟨b, 1, none⟩ = some (.int .i64 0) := by rw [Lib.cell_of_heap hbk2]; rfl
      have e0 : w2.frozen? ⟨b, 0, none⟩ = false := Lib.frozen_of_heap hbk2 0
      have e1 : w2.frozen? ⟨b, 1, none⟩ = false := Lib.frozen_of_heap hbk2 1)
  all_goals (
    go_wp2
    go_ret
    have hh0 : w'.drew.heap = w.heap := by rw [HW0.out]; rfl
    have hos : w'.drew.os = w.os ∧ w'.drew.tape = w.tape ∧ w'.drew.output = w.output := by rw [HW0.out]; exact ⟨rfl, rfl, rfl⟩
    exact ⟨rfl, by simpa using rdy_end (l := l) (n := n) (w0 := w'.drew) (vo := some g) hh0 hos hbk2 hN hcsz (htk.trans htake) hcap2 hcm2 hbel hbW _⟩)
end Go.Proofs.YtajlhhejblpfcaaDoor.Lx
