/- The contract of ocode.places: for each label the place of its OLabel and its procedure. -/
import Derived.Test.YtkmcanknbdaliaaQChecksCod
import Derived.RegionTactic
import Derived.ChangeAlike
import Derived.Deep.DeepCutAuto
import Derived.Deep.QuietTactic
import Derived.BigQuiet
import Derived.WalkSmall
namespace Go.Proofs.Ytkmcanknbdaliaa.Lx
open Go Go.RowKit Go.Proofs.YtkmcanknbdaliaaW.PrintWords Go.Proofs.YtkmcanknbdaliaaW.PrintLast Go.Proofs.YtkmcanknbdaliaaW.PrintMore Go.Proofs.Ytkmcanknbdaliaa.PO
/-- places' loop, from an instruction on. -/
def placL : List S35 → Nat → Int → Int → List Int → List Int → Option (List Int × List Int × Int × Int)
 | [], _, p, last, at_, of_ => some (at_, of_, p, last)
 | o :: l, i, p, last, at_, of_ =>
  if o.f0 = 24 then (if o.f1 = p + 1 then placL l (i + 1) (p + 1) last at_ of_ else none)
  else if o.f0 = 19 then (if rd of_ o.f1 ≠ 0 ∨ p = 0 then none else placL l (i + 1) p (mx last o.f1) (at_.set o.f1.toNat i) (of_.set o.f1.toNat p))
  else placL l (i + 1) p last at_ of_
def zeros (L : Nat) : List Int := List.replicate (L + 1) 0
/-- What places answers. -/
def placFin (c : Cod) : Option (List Int × List Int × Int × Int) → List Int × List Int × Bool
 | none => ([], [], false)
 | some (at_, of_, p, last) => (at_, of_, decide (p = c.procs) && decide (last = c.labels))
def placR (c : Cod) : List Int × List Int × Bool := placFin c (placL c.ops 0 0 0 (zeros c.labels.toNat) (zeros c.labels.toNat))
/-- Its cells in memory, the labels as a natural number. -/
def cellsL (c : Cod) (a : Adr) (L : Nat) : Array Value := #[.string c.name, .slice a.a1 c.data.length a.c1, .slice a.a2 c.ops.length a.c2, .slice a.a3 c.gl.length a.c3, .int .i64 c.procs, .int .i64 L]
def PlacPost (w : World) (r : List Int × List Int × Bool) (e : Ending) (w' : World) : Prop :=
 ∃ A1 c1 A2 c2, e = .returned (.tuple #[.slice A1 r.1.length c1, .slice A2 r.2.1.length c2, .bool r.2.2]) ∧ Kd.C (Kd.int .i64) w' A1 r.1.length r.1 ∧ r.1.length ≤ c1 ∧ Kd.C (Kd.int .i64) w' A2 r.2.1.length r.2.1 ∧ r.2.1.length ≤ c2 ∧ Below w.heap.size w w'
theorem info3 : (Try.prog.info? 3).map (fun i => (i.zero, i.size, i.bytes)) = some (some (.int .i64 0), 1, 8) := by kernel_rfl
theorem make_ints (L : Nat) (hL : L ≤ 1000000) (W : World) : (Instr.makeSlice 29 (.int .i64 ((L : Int) + 1)) (.int .i64 ((L : Int) + 1))).run Try.prog W = .ok (.slice (some ⟨W.heap.size, 0, none⟩) (L + 1) (L + 1)) (W.alloc (.cells (madeCells #[.int .i64 0] (L + 1)) 3)) := by
 have h := print_make 29 3 .i64 8 Try.underlying29 info3 (by omega) (L + 1) (by omega) W
 simpa using h
/-- The two rows of places, in whatever order they were made. -/
def TwoRows (w W : World) (L B1 B2 : Nat) (xs ys : List Int) : Prop :=
 B1 ≠ B2 ∧ W.ownsRow w.heap.size 3 1 (.slice (some ⟨B1, 0, none⟩) (L + 1) (L + 1)) (L + 1) (nums .i64 xs) ∧ W.ownsRow w.heap.size 3 1 (.slice (some ⟨B2, 0, none⟩) (L + 1) (L + 1)) (L + 1) (nums .i64 ys)
def BoxAt (W : World) (b : Nat) (cells : Array Value) (t : Nat) : Prop := W.heap[b]? = some (.cells cells t (0, 0))
theorem twoRows_made (w W : World) (L : Nat) (hL : L ≤ 1000000) (h : w.heap.size ≤ W.heap.size) :
  TwoRows w ((W.alloc (.cells (madeCells #[.int .i64 0] (L + 1)) 3)).alloc (.cells (madeCells #[.int .i64 0] (L + 1)) 3)).drew L W.heap.size (W.heap.size + 1) (zeros L) (zeros L) ∧
  TwoRows w ((W.alloc (.cells (madeCells #[.int .i64 0] (L + 1)) 3)).alloc (.cells (madeCells #[.int .i64 0] (L + 1)) 3)).drew L (W.heap.size + 1) W.heap.size (zeros L) (zeros L) := by
 have h1 := (own_made W w.heap.size 3 .i64 (L + 1) h (by omega)).alloc (.cells (madeCells #[.int .i64 0] (L + 1)) 3)
 have h2 := own_made (W.alloc (.cells (madeCells #[.int .i64 0] (L + 1)) 3)) w.heap.size 3 .i64 (L + 1) (by simp; omega) (by omega)
 rw [show (W.alloc (.cells (madeCells #[.int .i64 0] (L + 1)) 3)).heap.size = W.heap.size + 1 by simp] at h2
 exact ⟨⟨by omega, h1.drew, h2.drew⟩, ⟨by omega, h2.drew, h1.drew⟩⟩
theorem own_block (B n c : Nat) : (Value.slice (some ⟨B, 0, none⟩) n c).ownBlock = some B := rfl
theorem twoRows_set {w W : World} {L B1 B2 : Nat} {xs ys : List Int} (h : TwoRows w W L B1 B2 xs ys) (j x y : Int) :
  TwoRows w ((W.setCell ⟨B1, j.toNat, none⟩ (.int .i64 x)).setCell ⟨B2, j.toNat, none⟩ (.int .i64 y)) L B1 B2 (xs.set j.toNat x) (ys.set j.toNat y) ∧
  TwoRows w ((W.setCell ⟨B2, j.toNat, none⟩ (.int .i64 y)).setCell ⟨B1, j.toNat, none⟩ (.int .i64 x)) L B1 B2 (xs.set j.toNat x) (ys.set j.toNat y) := by
 obtain ⟨hne, h1, h2⟩ := h
 have n1 : (some B2 : Option Nat) ≠ some B1 := fun e => hne (Option.some.inj e).symm
 constructor
 ·obtain ⟨a1, g1⟩ := own_store h1 j x
  have b1 := own_other h2 g1 (.inr n1)
  obtain ⟨b2, g2⟩ := own_store b1 j y
  exact ⟨hne, own_other a1 g2 (.inr n1.symm), b2⟩
 ·obtain ⟨a1, g1⟩ := own_store h2 j y
  have b1 := own_other h1 g1 (.inr n1.symm)
  obtain ⟨b2, g2⟩ := own_store b1 j x
  exact ⟨hne, b2, own_other a1 g2 (.inr n1)⟩
theorem TwoRows.set1 {w W : World} {L B1 B2 : Nat} {xs ys : List Int} (h : TwoRows w W L B1 B2 xs ys) (j x : Int) : TwoRows w (W.setCell ⟨B1, j.toNat, none⟩ (.int .i64 x)) L B1 B2 (xs.set j.toNat x) ys := by
 obtain ⟨hne, h1, h2⟩ := h
 obtain ⟨a1, g1⟩ := own_store h1 j x
 exact ⟨hne, a1, own_other h2 g1 (.inr fun e => hne (Option.some.inj e).symm)⟩
theorem TwoRows.set2 {w W : World} {L B1 B2 : Nat} {xs ys : List Int} (h : TwoRows w W L B1 B2 xs ys) (j y : Int) : TwoRows w (W.setCell ⟨B2, j.toNat, none⟩ (.int .i64 y)) L B1 B2 xs (ys.set j.toNat y) := by
 obtain ⟨hne, h1, h2⟩ := h
 obtain ⟨a1, g1⟩ := own_store h2 j y
 exact ⟨hne, own_other h1 g1 (.inr fun e => hne (Option.some.inj e)), a1⟩
theorem TwoRows.alloc {w W : World} {L B1 B2 : Nat} {xs ys : List Int} (h : TwoRows w W L B1 B2 xs ys) (o : Obj) : TwoRows w (W.alloc o) L B1 B2 xs ys := ⟨h.1, h.2.1.alloc o, h.2.2.alloc o⟩
theorem TwoRows.drew {w W : World} {L B1 B2 : Nat} {xs ys : List Int} (h : TwoRows w W L B1 B2 xs ys) : TwoRows w W.drew L B1 B2 xs ys := ⟨h.1, h.2.1.drew, h.2.2.drew⟩
theorem TwoRows.cells {w W : World} {L B1 B2 : Nat} {xs ys : List Int} (h : TwoRows w W L B1 B2 xs ys) (j : Int) (h0 : 0 ≤ j) (h1 : j ≤ L) :
  (W.cell? ⟨B1, j.toNat, none⟩ = some (.int .i64 (rd xs j)) ∧ W.frozen? ⟨B1, j.toNat, none⟩ = false) ∧ W.cell? ⟨B2, j.toNat, none⟩ = some (.int .i64 (rd ys j)) ∧ W.frozen? ⟨B2, j.toNat, none⟩ = false :=
 ⟨own_at h.2.1 j h0 (by omega), own_at h.2.2 j h0 (by omega)⟩
theorem TwoRows.lt {w W : World} {L B1 B2 : Nat} {xs ys : List Int} (h : TwoRows w W L B1 B2 xs ys) : B1 < W.heap.size ∧ B2 < W.heap.size := ⟨own_lt h.2.1 B1 rfl, own_lt h.2.2 B2 rfl⟩
theorem TwoRows.ge {w W : World} {L B1 B2 : Nat} {xs ys : List Int} (h : TwoRows w W L B1 B2 xs ys) : w.heap.size ≤ B1 ∧ w.heap.size ≤ B2 :=
 ⟨own_base h.2.1 B1 rfl, own_base h.2.2 B2 rfl⟩
theorem box_set {W : World} {b : Nat} {cells : Array Value} {t : Nat} (h : BoxAt W b cells t) (p : Addr) (hne : b ≠ p.block) (u : Value) : BoxAt (W.setCell p u) b cells t := (Below.heap_setCell W p u b hne).trans h
theorem TwoRows.ne_box {w W : World} {L B1 B2 b : Nat} {xs ys : List Int} {cells : Array Value} {t : Nat} (h : TwoRows w W L B1 B2 xs ys) (hb : BoxAt W b cells t) (ht : t ≠ 3) : b ≠ B1 ∧ b ≠ B2 :=
 ⟨fun e => by
   obtain ⟨cs, hc⟩ := own_typed h.2.1 B1 rfl
   rw [← e, hb] at hc
   injection hc with hc; injection hc with _ hc
   exact ht hc,
   fun e => by
   obtain ⟨cs, hc⟩ := own_typed h.2.2 B2 rfl
   rw [← e, hb] at hc
   injection hc with hc; injection hc with _ hc
   exact ht hc⟩
theorem TwoRows.len {w W : World} {L B1 B2 : Nat} {xs ys : List Int} (h : TwoRows w W L B1 B2 xs ys) : xs.length = L + 1 ∧ ys.length = L + 1 := by
 have h1 := h.2.1.1
 have h2 := h.2.2.1
 rw [nums_length, Nat.mul_one] at h1 h2
 exact ⟨h1, h2⟩
theorem placR_of (c : Cod) (L : Nat) (hc : c.labels = L) (r : Option (List Int × List Int × Int × Int)) (h : placL c.ops 0 0 0 (zeros L) (zeros L) = r) : placR c = placFin c r := by
 subst h
 unfold placR
 rw [hc, Int.toNat_natCast]
theorem placNo (w w' : World) (h : Below w.heap.size w w') : PlacPost w ([], [], false) (.returned (.tuple #[.slice none 0 0, .slice none 0 0, .bool false])) w' :=
 ⟨none, 0, none, 0, rfl, ⟨rfl, by simp, fun h => absurd h (by decide)⟩, by simp, ⟨rfl, by simp, fun h => absurd h (by decide)⟩, by simp, h⟩
theorem int_beq (x y : Int) : decide (x = y) = (x == y) := rfl
theorem placYes (c : Cod) (w wr : World) (L B1 B2 : Nat) (xs ys : List Int) (p last : Int) (b : Bool) (hT : TwoRows w wr L B1 B2 xs ys) (hb : (decide (p = c.procs) && decide (last = c.labels)) = b) (hB : Below w.heap.size w wr) (n : Nat) :
  PlacPost w (placFin c (some (xs, ys, p, last))) (.returned (.tuple #[.slice (some ⟨B1, 0, none⟩) (L + 1) (L + 1), .slice (some ⟨B2, 0, none⟩) (L + 1) (L + 1), .bool b])) (wr.drewN n) := by
 have hl := hT.len
 have h1 := Kd.R_reads' (Kd.R_of_own (enc := Value.int .i64) (h1 := fun _ => rfl) (by rw [hl.1]; exact hT.2.1) (fun _ _ => trivial) : Kd.R (Kd.int .i64) 3 wr w.heap.size (fun _ => True) (.slice (some ⟨B1, 0, none⟩) (L + 1) (L + 1)) xs)
 have h2 := Kd.R_reads' (Kd.R_of_own (enc := Value.int .i64) (h1 := fun _ => rfl) (by rw [hl.2]; exact hT.2.2) (fun _ _ => trivial) : Kd.R (Kd.int .i64) 3 wr w.heap.size (fun _ => True) (.slice (some ⟨B2, 0, none⟩) (L + 1) (L + 1)) ys)
 subst hb
 exact ⟨_, L + 1, _, L + 1, by rw [← hl.1]; simp only [placFin]; rw [hl.2, hl.1], Kd.C_below h1.2.2 (below_drewN (Below.refl _ _) n), by show xs.length ≤ _; omega, Kd.C_below h2.2.2 (below_drewN (Below.refl _ _) n), by show ys.length ≤ _; omega, below_drewN hB n⟩
theorem drop_op (c : Cod) (k : Nat) (hk : k < c.ops.length) : c.ops.drop k = rd_T35 c.ops k :: c.ops.drop (k + 1) := by
 rw [List.drop_eq_getElem_cons hk]
 congr 1
 simp [rd_T35, List.getD_eq_getElem?_getD, List.getElem?_eq_getElem hk]
theorem op_mem (c : Cod) (k : Nat) (hk : k < c.ops.length) : rd_T35 c.ops k ∈ c.ops := by
 simp [rd_T35, List.getD_eq_getElem?_getD, List.getElem?_eq_getElem hk]
set_option maxRecDepth 100000 in
set_option maxHeartbeats 4000000 in
theorem places_calls (c : Cod) (a : Adr) (w : World) (h : CodAt w c a) (L : Nat) (hL : L ≤ 1000000) (hc : c.labels = L) (hops : c.ops.length ≤ 1000000) (hl : ∀ o ∈ c.ops, o.f0 = 19 → 0 ≤ o.f1 ∧ o.f1 ≤ L) :
  Calls Try.prog 64 #[.agg (codCells c a)] w (PlacPost w (placR c)) := by
 have HM := fun W => make_ints L hL W
 have H := Lib.hid h
 have HLs := Lib.hid hl
 have HCL := Lib.hid hc
 clear h hl
 unfold codCells
 rw [hc]
 clear hc
 go_enter Try.func64, Try.ntmps64
 go_upto_region 1 with (fail)
 go_cut [2, 3] (fun v2 v3 wc => ∃ B1 B2 : Nat, v2 = .slice (some ⟨B1, 0, none⟩) (L + 1) (L + 1) ∧ v3 = .slice (some ⟨B2, 0, none⟩) (L + 1) (L + 1) ∧ Hid (TwoRows w wc L B1 B2 (zeros L) (zeros L)) ∧ Hid (BoxAt wc w.heap.size (cellsL c a L) 26) ∧ Hid (Below w.heap.size w wc))
 case first =>
  have HQ := twoRows_made w (w.alloc (.cells #[.string c.name, .slice a.a1 c.data.length a.c1, .slice a.a2 c.ops.length a.c2, .slice a.a3 c.gl.length a.c3, .int .i64 c.procs, .int .i64 L] 26)) L hL (by simp)
  rw [show (w.alloc (.cells #[.string c.name, .slice a.a1 c.data.length a.c1, .slice a.a2 c.ops.length a.c2, .slice a.a3 c.gl.length a.c3, .int .i64 c.procs, .int .i64 L] 26)).heap.size = w.heap.size + 1 by simp] at HQ
  have HQ2 := Lib.hid HQ
  clear HQ
  go_region
  all_goals (go_wp2_with fail)
  all_goals go_meet
  all_goals
   refine ⟨_, _, rfl, rfl, Lib.hid ?_, Lib.hid ?_, Lib.hid ?_⟩
   ·first | exact HQ2.out.1 | exact HQ2.out.2
   ·refine blk_drew (blk_alloc (blk_alloc ?_ _) _)
    exact heap_alloc_new w _
   ·exact below_drew ((((Below.refl _ _).alloc (Nat.le_refl _) _).alloc (by simp) _).alloc (by simp; omega) _)
 case rest =>
  obtain ⟨B1, B2, rfl, rfl, HT, HB, HW⟩ := hcut
  clear HM
  have hb2 : wc.cell? ⟨w.heap.size, 2, none⟩ = some (.slice a.a2 c.ops.length a.c2) := (blk_cell HB.out 2).trans rfl
  go_wp2_with fail
  go_loopw [2, 3, 5, 6, 20] (fun v2 v3 vp vl vi wr => ∃ (k : Nat) (p last : Int) (xs ys : List Int), v2 = .slice (some ⟨B1, 0, none⟩) (L + 1) (L + 1) ∧ v3 = .slice (some ⟨B2, 0, none⟩) (L + 1) (L + 1) ∧ k ≤ c.ops.length ∧ vi = .int .i64 k ∧ vp = .int .i64 p ∧ vl = .int .i64 last ∧ 0 ≤ p ∧ p ≤ k ∧ Hid (placL c.ops 0 0 0 (zeros L) (zeros L) = placL (c.ops.drop k) k p last xs ys) ∧ Hid (TwoRows w wr L B1 B2 xs ys) ∧ Hid (BoxAt wr w.heap.size (cellsL c a L) 26) ∧ Hid (Below w.heap.size w wr)) (fun _ _ _ _ vi _ => c.ops.length - (intOf vi).toNat)
  case atStart => exact ⟨0, 0, 0, _, _, rfl, rfl, by omega, rfl, rfl, rfl, by omega, by omega, Lib.hid rfl, HT, HB, HW⟩
  case round =>
   clear hb2 HT HB HW
   obtain ⟨k, p, last, xs, ys, rfl, rfl, hk, rfl, rfl, rfl, hp0, hpk, HP, HT, HB, HW⟩ := hrel
   by_cases hlt : k < c.ops.length
   ·obtain ⟨o, ho⟩ : ∃ o, o = rd_T35 c.ops k := ⟨_, rfl⟩
    obtain ⟨ad, had, hx0, hx1, hx2⟩ := H.out.op k hlt o ho
    have hy0 := (HW.out.cell (World.block_lt_of_cell? w _ hx0)).trans hx0
    have hy1 := (HW.out.cell (World.block_lt_of_cell? w _ hx1)).trans hx1
    have hy2 := (HW.out.cell (World.block_lt_of_cell? w _ hx2)).trans hx2
    clear hx0 hx1 hx2
    rw [had]
    have HA := Lib.hid had
    clear had
    have HD := Lib.hid (drop_op c k hlt)
    have hbd := HLs.out _ (op_mem c k hlt)
    rw [← ho] at HD hbd
    clear ho
    by_cases h24 : o.f0 = 24
    ·have hb24 : (o.f0 == 24) = true := beq_iff_eq.2 h24
     have hn19 : (o.f0 == 19) = false := by rw [h24]; rfl
     have H24 := Lib.hid h24
     clear h24 hbd
     by_cases h1 : o.f1 = p + 1
     ·have hb1 : (o.f1 != p + 1) = false := bne_eq_false_iff_eq.2 h1
      have HN : Hid (placL c.ops 0 0 0 (zeros L) (zeros L) = placL (c.ops.drop (k + 1)) (k + 1) (p + 1) last xs ys) := Lib.hid (by rw [HP.out, HD.out, placL, if_pos H24.out, if_pos h1])
      clear h1
      go_wp2_with fail
      go_roundw
      case rel => exact ⟨k + 1, p + 1, last, xs, ys, rfl, rfl, by omega, by go_num, rfl, rfl, by omega, by omega, HN, Lib.hid (HT.out.alloc _), Lib.hid (blk_alloc HB.out _), Lib.hid (HW.out.alloc HW.out.size _)⟩
      case measure => simp [intOf]; omega
     ·have hb1 : (o.f1 != p + 1) = true := bne_iff_ne.2 h1
      have HN : Hid (placR c = ([], [], false)) := Lib.hid (placR_of c L HCL.out none (by rw [HP.out, HD.out, placL, if_pos H24.out, if_neg h1]))
      clear h1
      go_wp2_with fail
      go_ret3
      rw [HN.out]
      exact placNo _ _ (HW.out.alloc HW.out.size _)
    ·have hb24 : (o.f0 == 24) = false := beq_eq_false_iff_ne.2 h24
     have H24 := Lib.hid h24
     clear h24
     by_cases h19 : o.f0 = 19
     ·have hb19 : (o.f0 == 19) = true := beq_iff_eq.2 h19
      have H19 := Lib.hid h19
      obtain ⟨hf0, hfL⟩ := hbd h19
      clear h19 hbd
      have hcell : ∀ o1, (wr.alloc o1).cell? ⟨B2, o.f1.toNat, none⟩ = some (.int .i64 (rd ys o.f1)) := fun o1 => ((HT.out.alloc o1).cells o.f1 hf0 hfL).2.1
      by_cases hq1 : rd ys o.f1 = 0
      ·have hbq : (rd ys o.f1 != 0) = false := bne_eq_false_iff_eq.2 hq1
       have HQ1 := Lib.hid hq1
       clear hq1
       by_cases hq2 : p = 0
       ·have HN : Hid (placR c = ([], [], false)) := Lib.hid (placR_of c L HCL.out none (by rw [HP.out, HD.out, placL, if_neg H24.out, if_pos H19.out, if_pos (.inr hq2)]))
        have hbp : (p == 0) = true := beq_iff_eq.2 hq2
        clear hq2
        go_wp2_with fail
        go_ret3
        rw [HN.out]
        exact placNo _ _ (HW.out.alloc HW.out.size _)
       ·have HN : Hid (placL c.ops 0 0 0 (zeros L) (zeros L) = placL (c.ops.drop (k + 1)) (k + 1) p (mx last o.f1) (xs.set o.f1.toNat k) (ys.set o.f1.toNat p)) := Lib.hid (by rw [HP.out, HD.out, placL, if_neg H24.out, if_pos H19.out, if_neg (by rw [HQ1.out]; simp [hq2])])
        have hbp : (p == 0) = false := beq_eq_false_iff_ne.2 hq2
        clear hq2
        have hne := HT.out.ne_box HB.out (by decide)
        have HNE := Lib.hid hne
        clear hne
        have hc1 : ∀ o1, (wr.alloc o1).cell? ⟨B1, o.f1.toNat, none⟩ = some (.int .i64 (rd xs o.f1)) := fun o1 => ((HT.out.alloc o1).cells o.f1 hf0 hfL).1.1
        have hz1 : ∀ o1, (wr.alloc o1).frozen? ⟨B1, o.f1.toNat, none⟩ = false := fun o1 => ((HT.out.alloc o1).cells o.f1 hf0 hfL).1.2
        have hz2 : ∀ o1, (wr.alloc o1).frozen? ⟨B2, o.f1.toNat, none⟩ = false := fun o1 => ((HT.out.alloc o1).cells o.f1 hf0 hfL).2.2
        have hs1 : ∀ o1 v, ((wr.alloc o1).setCell ⟨B1, o.f1.toNat, none⟩ (.int .i64 v)).cell? ⟨B2, o.f1.toNat, none⟩ = some (.int .i64 (rd ys o.f1)) := fun o1 v => (((HT.out.alloc o1).set1 o.f1 v).cells o.f1 hf0 hfL).2.1
        have hs2 : ∀ o1 v, ((wr.alloc o1).setCell ⟨B1, o.f1.toNat, none⟩ (.int .i64 v)).frozen? ⟨B2, o.f1.toNat, none⟩ = false := fun o1 v => (((HT.out.alloc o1).set1 o.f1 v).cells o.f1 hf0 hfL).2.2
        have hs3 : ∀ o1 v, ((wr.alloc o1).setCell ⟨B2, o.f1.toNat, none⟩ (.int .i64 v)).cell? ⟨B1, o.f1.toNat, none⟩ = some (.int .i64 (rd xs o.f1)) := fun o1 v => (((HT.out.alloc o1).set2 o.f1 v).cells o.f1 hf0 hfL).1.1
        have hs4 : ∀ o1 v, ((wr.alloc o1).setCell ⟨B2, o.f1.toNat, none⟩ (.int .i64 v)).frozen? ⟨B1, o.f1.toNat, none⟩ = false := fun o1 v => (((HT.out.alloc o1).set2 o.f1 v).cells o.f1 hf0 hfL).1.2
        have hlt2 := HT.out.lt
        have hs5 : ∀ v, ((wr.alloc (.cells #[.int .i64 o.f0, .int .i64 o.f1, .int .i64 o.f2] 35)).setCell ⟨B1, o.f1.toNat, none⟩ v).cell? ⟨wr.heap.size, 1, none⟩ = some (.int .i64 o.f1) := fun v => (blk_cell (blk_far (p := ⟨B1, o.f1.toNat, none⟩) (heap_alloc_new wr _) (Nat.ne_of_gt hlt2.1) v) 1).trans rfl
        have hs6 : ∀ v, ((wr.alloc (.cells #[.int .i64 o.f0, .int .i64 o.f1, .int .i64 o.f2] 35)).setCell ⟨B2, o.f1.toNat, none⟩ v).cell? ⟨wr.heap.size, 1, none⟩ = some (.int .i64 o.f1) := fun v => (blk_cell (blk_far (p := ⟨B2, o.f1.toNat, none⟩) (heap_alloc_new wr _) (Nat.ne_of_gt hlt2.2) v) 1).trans rfl
        have hs7 : ∀ v u, (((wr.alloc (.cells #[.int .i64 o.f0, .int .i64 o.f1, .int .i64 o.f2] 35)).setCell ⟨B1, o.f1.toNat, none⟩ v).setCell ⟨B2, o.f1.toNat, none⟩ u).cell? ⟨wr.heap.size, 1, none⟩ = some (.int .i64 o.f1) := fun v u => (blk_cell (blk_far (p := ⟨B2, o.f1.toNat, none⟩) (blk_far (p := ⟨B1, o.f1.toNat, none⟩) (heap_alloc_new wr _) (Nat.ne_of_gt hlt2.1) v) (Nat.ne_of_gt hlt2.2) u) 1).trans rfl
        have hs8 : ∀ v u, (((wr.alloc (.cells #[.int .i64 o.f0, .int .i64 o.f1, .int .i64 o.f2] 35)).setCell ⟨B2, o.f1.toNat, none⟩ v).setCell ⟨B1, o.f1.toNat, none⟩ u).cell? ⟨wr.heap.size, 1, none⟩ = some (.int .i64 o.f1) := fun v u => (blk_cell (blk_far (p := ⟨B1, o.f1.toNat, none⟩) (blk_far (p := ⟨B2, o.f1.toNat, none⟩) (heap_alloc_new wr _) (Nat.ne_of_gt hlt2.2) v) (Nat.ne_of_gt hlt2.1) u) 1).trans rfl
        have HLT := Lib.hid hlt2
        clear hlt2
        go_wp2_with fail
        go_region
        all_goals (go_wp2_with fail)
        all_goals go_roundw
        case rel =>
         refine ⟨k + 1, p, mx last o.f1, _, _, rfl, rfl, by omega, by go_num, rfl, rfl, by omega, by omega, HN, Lib.hid ?_, Lib.hid ?_, Lib.hid ?_⟩
         ·first | exact (twoRows_set (HT.out.alloc _) o.f1 k p).1.drew | exact (twoRows_set (HT.out.alloc _) o.f1 k p).2.drew
         ·exact blk_drew (blk_far (blk_far (blk_alloc HB.out _) (by first | exact HNE.out.1 | exact HNE.out.2) _) (by first | exact HNE.out.1 | exact HNE.out.2) _)
         ·exact below_drew (((HW.out.alloc HW.out.size _).setCell (by first | exact HT.out.ge.1 | exact HT.out.ge.2) _).setCell (by first | exact HT.out.ge.1 | exact HT.out.ge.2) _)
        case measure => simp [intOf]; omega
      ·have HN : Hid (placR c = ([], [], false)) := Lib.hid (placR_of c L HCL.out none (by rw [HP.out, HD.out, placL, if_neg H24.out, if_pos H19.out, if_pos (.inl hq1)]))
       have hbq : (rd ys o.f1 != 0) = true := bne_iff_ne.2 hq1
       clear hq1
       go_wp2_with fail
       go_ret3
       rw [HN.out]
       exact placNo _ _ (HW.out.alloc HW.out.size _)
     ·have hb19 : (o.f0 == 19) = false := beq_eq_false_iff_ne.2 h19
      have HN : Hid (placL c.ops 0 0 0 (zeros L) (zeros L) = placL (c.ops.drop (k + 1)) (k + 1) p last xs ys) := Lib.hid (by rw [HP.out, HD.out, placL, if_neg H24.out, if_neg h19])
      clear h19 hbd
      go_wp2_with fail
      go_roundw
      case rel => exact ⟨k + 1, p, last, xs, ys, rfl, rfl, by omega, by go_num, rfl, rfl, by omega, by omega, HN, Lib.hid (HT.out.alloc _), Lib.hid (blk_alloc HB.out _), Lib.hid (HW.out.alloc HW.out.size _)⟩
      case measure => simp [intOf]; omega
   ·obtain rfl : k = c.ops.length := by omega
    rw [List.drop_length, placL] at HP
    have hb4 : wr.cell? ⟨w.heap.size, 4, none⟩ = some (.int .i64 c.procs) := (blk_cell HB.out 4).trans rfl
    have hb5 : wr.cell? ⟨w.heap.size, 5, none⟩ = some (.int .i64 L) := (blk_cell HB.out 5).trans rfl
    have HN := Lib.hid (placR_of c L HCL.out _ HP.out)
    cases hbp : decide (p = c.procs) with
    | true =>
     have hb1 : (p == c.procs) = true := beq_iff_eq.2 (of_decide_eq_true hbp)
     have HQ := Lib.hid hbp
     clear hbp
     go_wp2_with fail
     go_quiet (fail)
     go_wp2_with fail
     go_ret3
     rw [HN.out]
     refine placYes c w _ L B1 B2 xs ys p last _ HT.out ?_ HW.out _
     rw [HQ.out, HCL.out]
     simp only [Bool.true_and, int_beq]
    | false =>
     have hb1 : (p == c.procs) = false := beq_eq_false_iff_ne.2 (of_decide_eq_false hbp)
     have HQ := Lib.hid hbp
     clear hbp
     go_wp2_with fail
     go_quiet (fail)
     go_wp2_with fail
     go_ret3
     rw [HN.out]
     refine placYes c w _ L B1 B2 xs ys p last _ HT.out ?_ HW.out _
     rw [HQ.out, HCL.out]
     simp
end Go.Proofs.Ytkmcanknbdaliaa.Lx
