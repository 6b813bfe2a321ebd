/- The contract of ocode.stacked: whether the depths of code are as said. -/
import Derived.Test.YtkmcanknbdaliaaQChecksStackA
import Derived.StillTailTactics
import Derived.RegionTactic
import Derived.ChangeAlike
import Derived.Deep.DeepCutAuto
import Derived.Deep.QuietTactic
import Derived.BigQuiet
import Derived.WalkSmall
import Derived.Outline
import Derived.IntWalk
namespace Go.Proofs.Ytkmcanknbdaliaa.Lx
open Go Go.RowKit Go.Proofs.YtkmcanknbdaliaaW.PrintWords Go.Proofs.YtkmcanknbdaliaaW.PrintLast Go.Proofs.YtkmcanknbdaliaaW.PrintMore Go.Proofs.Ytkmcanknbdaliaa.PO
theorem wpStill_skip {P : Program} {ops : Array Oper} {w : World} {Q : Act → Prop} {a : Act} {o : Oper} {rest : List Oper} (h : Region.wanted o (yielded ops a.tmps) = false) (k : wpStill P ops w Q rest (a.put o.dst undef)) : wpStill P ops w Q (o :: rest) a := by
 unfold wpStill
 rw [h]
 exact k
/-- What is known of memory in a round. -/
structure Rd (w w5 : World) (c : Cod) (a : Adr) (B g : Nat) (o : Op) (W : World) : Prop where
 x : BoxAt W w.heap.size (codCells c a) 26
 y : BoxAt W g #[.int .i64 o.f0, .int .i64 o.f1, .int .i64 o.f2] 35
 k : BoxAt W B kindCells 54
 b : Below w.heap.size w W
 s : Below w5.heap.size w5 W
theorem Rd.step {w w5 W W' : World} {c : Cod} {a : Adr} {B g : Nat} {o : Op} (h : Rd w w5 c a B g o W) (hb : Below W.heap.size W W') : Rd w w5 c a B g o W' :=
 ⟨blk_below h.x hb, blk_below h.y hb, blk_below h.k hb, below_step h.b hb, below_step h.s hb⟩
theorem Rd.drew {w w5 W : World} {c : Cod} {a : Adr} {B g : Nat} {o : Op} (h : Rd w w5 c a B g o W) : Rd w w5 c a B g o W.drew := h.step (below_drew (Below.refl _ _))
theorem Rd.drewN {w w5 W : World} {c : Cod} {a : Adr} {B g : Nat} {o : Op} (h : Rd w w5 c a B g o W) (n : Nat) : Rd w w5 c a B g o (W.drewN n) := h.step (pw_below_drewN (Below.refl _ _) n)
theorem Rd.cells {w w5 W : World} {c : Cod} {a1 a2 a3 : Option Addr} {b1 b2 b3 : Nat} {B g : Nat} {f0 f1 f2 : Int} (h : Rd w w5 c ⟨a1, b1, a2, b2, a3, b3⟩ B g ⟨f0, f1, f2⟩ W) :
  W.cell? ⟨g, 0, none⟩ = some (.int .i64 f0) ∧ W.cell? ⟨g, 1, none⟩ = some (.int .i64 f1) ∧ W.cell? ⟨g, 2, none⟩ = some (.int .i64 f2) ∧ W.cell? ⟨w.heap.size, 2, none⟩ = some (.slice a2 c.ops.length b2) :=
 ⟨(blk_cell h.y 0).trans rfl, (blk_cell h.y 1).trans rfl, (blk_cell h.y 2).trans rfl, (blk_cell h.x 2).trans rfl⟩
/-- An instruction's cells in a round. -/
theorem Rd.op {w w5 W : World} {c : Cod} {a1 a3 : Option Addr} {ad : Addr} {b1 b2 b3 : Nat} {B g : Nat} {o : Op} (h : Rd w w5 c ⟨a1, b1, some ad, b2, a3, b3⟩ B g o W) (H : CodAt w c ⟨a1, b1, some ad, b2, a3, b3⟩) (k : Nat) (hk : k < c.ops.length) :
  W.cell? (ad.add (k * 3)) = some (.int .i64 (opAt c.ops k).f0) := by
 obtain ⟨ad', had, hx0, _⟩ := op_cells (H.below h.b).h2 k hk _ rfl 0 rfl
 change some ad = some ad' at had
 injection had with had
 subst had
 exact hx0
/-- The places of labels are places of instructions. -/
theorem placL_range : ∀ (l : List Op) (i : Nat) (p q : Int) (xs ys : List Int) (n : Nat) (r : List Int × List Int × Int × Int), i + l.length ≤ n → (∀ x ∈ xs, 0 ≤ x ∧ (x = 0 ∨ x < n)) → placL l i p q xs ys = some r → ∀ x ∈ r.1, 0 ≤ x ∧ (x = 0 ∨ x < n)
 | [], i, p, q, xs, ys, n, r, _, hx, h => by
  rw [placL] at h
  injection h with h
  subst h
  exact hx
 | o :: l, i, p, q, xs, ys, n, r, hn, hx, h => by
  rw [List.length_cons] at hn
  rw [placL] at h
  by_cases a : o.f0 = 24
  ·rw [if_pos a] at h
   by_cases b : o.f1 = p + 1
   ·rw [if_pos b] at h
    exact placL_range l (i + 1) _ _ _ _ n r (by omega) hx h
   ·rw [if_neg b] at h
    exact absurd h (by simp)
  ·rw [if_neg a] at h
   by_cases b : o.f0 = 19
   ·rw [if_pos b] at h
    by_cases e : rd ys o.f1 ≠ 0 ∨ p = 0
    ·rw [if_pos e] at h
     exact absurd h (by simp)
    ·rw [if_neg e] at h
     refine placL_range l (i + 1) _ _ _ _ n r (by omega) (fun x hm => ?_) h
     rcases List.mem_or_eq_of_mem_set hm with h1 | h1
     ·exact hx x h1
     ·subst h1
      exact ⟨by omega, .inr (by omega)⟩
   ·rw [if_neg b] at h
    exact placL_range l (i + 1) _ _ _ _ n r (by omega) hx h
theorem placR_range (c : Cod) (h : 0 < c.ops.length) (j : Int) : 0 ≤ rd (placR c).1 j ∧ rd (placR c).1 j < c.ops.length := by
 have hz : ∀ x ∈ zeros c.labels.toNat, 0 ≤ x ∧ (x = 0 ∨ x < (c.ops.length : Int)) := fun x hx => by
  have := List.eq_of_mem_replicate hx
  omega
 have key : ∀ x ∈ (placR c).1, 0 ≤ x ∧ (x = 0 ∨ x < (c.ops.length : Int)) := by
  unfold placR
  cases e : placL c.ops 0 0 0 (zeros c.labels.toNat) (zeros c.labels.toNat) with
  | none => intro x hx; simp [placFin] at hx
  | some r =>
   have := placL_range c.ops 0 0 0 _ _ c.ops.length r (by omega) hz e
   obtain ⟨r1, r2, r3, r4⟩ := r
   exact this
 unfold rd
 by_cases g : j.toNat < (placR c).1.length
 ·rw [List.getD_eq_getElem?_getD, List.getElem?_eq_getElem g, Option.getD_some]
  have := key _ (List.getElem_mem g)
  omega
 ·rw [List.getD_eq_getElem?_getD, List.getElem?_eq_none (by omega), Option.getD_none]
  omega
theorem leadOp_eq {l : List Op} {i j : Nat} (h : leadsL (l.drop i) i = some j) : leadOp l i = opAt l j := by unfold leadOp; rw [h]; rfl
theorem leads_quiet (l : List Op) (A : Option Addr) (cc : Nat) (i j : Nat) (w : World) (n : Nat) (h : Kd.C k35 w A l.length l) (hc : l.length ≤ cc) (hi : i ≤ l.length) (hl : l.length ≤ 1000000) (hj : leadsL (l.drop i) i = some j) :
  Calls Try.prog 68 #[.slice A l.length cc, .int .i64 (i : Int)] (w.drewN n) fun e w'' => e = .returned (.int .i64 (j : Int)) ∧ ∃ m, w'' = w.drewN m :=
 Calls.quiet_of ((leads_calls l A cc i j (w.drewN n) (Kd.C_drewN h n) hc hi hl hj).mono fun _ _ ⟨he, hd⟩ => ⟨he, hd.out⟩)
theorem ends_quiet (l : List Op) (A : Option Addr) (cc : Nat) (i : Nat) (b : Bool) (w : World) (n : Nat) (h : Kd.C k35 w A l.length l) (hc : l.length ≤ cc) (hi : i < l.length) (hl : l.length ≤ 1000000) (hb : endsB l i = b) :
  Calls Try.prog 69 #[.slice A l.length cc, .int .i64 (i : Int)] (w.drewN n) fun e w'' => e = .returned (.bool b) ∧ ∃ m, w'' = w.drewN m := by
 subst hb
 exact Calls.quiet_of ((ends_calls l A cc i (w.drewN n) (Kd.C_drewN h n) hc hi hl).mono fun _ _ ⟨he, hd⟩ => ⟨he, hd.out⟩)
theorem leads_at (l : List Op) (A : Option Addr) (cc : Nat) (i j : Nat) (x : Int) (hx : x = (i : Int)) (w : World) (n : Nat) (h : Kd.C k35 w A l.length l) (hc : l.length ≤ cc) (hi : i ≤ l.length) (hl : l.length ≤ 1000000) (hj : leadsL (l.drop i) i = some j) :
  Calls Try.prog 68 #[.slice A l.length cc, .int .i64 x] (w.drewN n) fun e w'' => e = .returned (.int .i64 (j : Int)) ∧ ∃ m, w'' = w.drewN m := by
 subst hx
 exact leads_quiet l A cc i j w n h hc hi hl hj
structure StackOk (c : Cod) : Prop where
 cd : CodedOk c
 p : c.procs ≤ 1000000
 l : 0 ≤ c.labels
 ops : c.ops.all (opOk c) = true
 pl : (placR c).2.2 = true
 ord : orderB c.ops = true
set_option maxRecDepth 100000 in
set_option maxHeartbeats 1000000 in
theorem stacked_calls (c : Cod) (a : Adr) (w : World) (h : CodAt w c a) (ok : StackOk c) : Calls Try.prog 41 #[.agg (codCells c a)] w fun e w' => e = .returned (.bool (stackedB c)) ∧ Below w.heap.size w w' := by
 obtain ⟨a1, b1, a2, b2, a3, b3⟩ := a
 have H := Lib.hid h
 have OK := Lib.hid ok
 clear h ok
 unfold codCells
 go_enter Try.func41, Try.ntmps41
 go_wp2_with fail
 refine (kinds_calls _).mono ?_
 rintro e w3 ⟨rfl, rfl⟩
 obtain ⟨L, hL⟩ : ∃ L : Nat, c.labels = L := ⟨c.labels.toNat, by have := OK.out.l; omega⟩
 have HL := Lib.hid hL
 clear hL
 obtain ⟨w2, hw2⟩ : ∃ w2, w2 = w.alloc (.cells #[.string c.name, .slice a1 c.data.length b1, .slice a2 c.ops.length b2, .slice a3 c.gl.length b3, .int .i64 c.procs, .int .i64 c.labels] 26) := ⟨_, rfl⟩
 have HB0 : Hid (Below w.heap.size w w2) := Lib.hid (by rw [hw2]; exact (Below.refl _ _).alloc (Nat.le_refl _) _)
 have HX0 : Hid (BoxAt w2 w.heap.size (codCells c ⟨a1, b1, a2, b2, a3, b3⟩) 26) := Lib.hid (by rw [hw2]; exact heap_alloc_new w _)
 rw [← hw2]
 clear hw2
 have HB : Hid (Below w.heap.size w ((w2.alloc (.cells kindCells 54)).alloc (.cells kindCells 54))) := Lib.hid ((HB0.out.alloc HB0.out.size _).alloc (HB0.out.alloc HB0.out.size _).size _)
 have HX : Hid (BoxAt ((w2.alloc (.cells kindCells 54)).alloc (.cells kindCells 54)) w.heap.size (codCells c ⟨a1, b1, a2, b2, a3, b3⟩) 26) := Lib.hid (blk_alloc (blk_alloc HX0.out _) _)
 have HK : Hid (BoxAt ((w2.alloc (.cells kindCells 54)).alloc (.cells kindCells 54)) (w2.heap.size + 1) kindCells 54) := Lib.hid (by have := heap_alloc_new (w2.alloc (.cells kindCells 54)) (.cells kindCells 54); simpa [BoxAt] using this)
 have hf : ∀ j : Nat, ((w2.alloc (.cells kindCells 54)).alloc (.cells kindCells 54)).cell? ⟨w.heap.size, j, none⟩ = (codCells c ⟨a1, b1, a2, b2, a3, b3⟩)[j]? := fun j => blk_cell HX.out j
 have hf0 := (hf 0).trans (show _ = some (.string c.name) from rfl)
 have hf1 := (hf 1).trans (show _ = some (.slice a1 c.data.length b1) from rfl)
 have hf2 := (hf 2).trans (show _ = some (.slice a2 c.ops.length b2) from rfl)
 have hf3 := (hf 3).trans (show _ = some (.slice a3 c.gl.length b3) from rfl)
 have hf4 := (hf 4).trans (show _ = some (.int .i64 c.procs) from rfl)
 have hf5 := (hf 5).trans (show _ = some (.int .i64 c.labels) from rfl)
 clear hf
 go_wp2_with (first | (refine wpList_store_table rfl 54 (.tmp 3) (.tmp 11) rfl (w2.alloc (.cells kindCells 54)) (w2.heap.size + 1) (by simp) kindCells Try.zeroCells54 54 rfl ?h5 ?h6 ?h1 ?h2 ?h3 ?_; (case h1 => kernel_rfl); (case h2 => kernel_rfl); (case h3 => kernel_rfl); (case h5 => rfl); (case h6 => kernel_rfl)))
 clear hf0 hf1 hf2 hf3 hf4 hf5
 refine (places_calls c ⟨a1, b1, a2, b2, a3, b3⟩ _ (H.out.below HB.out) L (by have := OK.out.cd.l; have := HL.out; omega) HL.out OK.out.cd.o (labels_ok OK.out.ops HL.out)).mono ?_
 rintro e w5 ⟨A1, d1, A2, d2, rfl, hA1, hd1, hA2, hd2, hb⟩
 have HB5 := Lib.hid (below_step HB.out hb)
 have HX5 := Lib.hid (blk_below HX.out hb)
 have HK5 := Lib.hid (blk_below HK.out hb)
 have HR1 := Lib.hid hA1
 have HD1 := Lib.hid hd1
 clear hb hA1 hA2 hd1 hd2 HX HB HK HX0 HB0
 have hf2 : w5.cell? ⟨w.heap.size, 2, none⟩ = some (.slice a2 c.ops.length b2) := (blk_cell HX5.out 2).trans rfl
 generalize w2.heap.size + 1 = B at *
 go_wp2_with fail
 clear hf2
 have HO := Lib.hid OK.out.cd.o
 go_loopw [2, 7, 21] (fun v2 v7 i wr => ∃ (k : Nat) (d : Int), k ≤ c.ops.length ∧ v2 = .bool false ∧ v7 = .int .i64 d ∧ i = .int .i64 k ∧ Hid (stackedB c = stackGo c.ops (placR c).1 k d) ∧ Hid (0 ≤ d ∧ d ≤ 4000) ∧ Hid (BoxAt wr w.heap.size (codCells c ⟨a1, b1, a2, b2, a3, b3⟩) 26) ∧ Hid (BoxAt wr B kindCells 54) ∧ Hid (Below w.heap.size w wr) ∧ Hid (Below w5.heap.size w5 wr)) (fun _ _ i _ => c.ops.length - (intOf i).toNat)
 case atStart => exact ⟨0, 0, by omega, rfl, rfl, rfl, Lib.hid rfl, Lib.hid (by omega), HX5, HK5, HB5, Lib.hid (Below.refl _ _)⟩
 case round =>
  clear HX5 HK5 HB5
  obtain ⟨k, d, hk, rfl, rfl, rfl, HA, HDD, HX, HK, HB, HS⟩ := hrel
  by_cases hlt : k < c.ops.length
  ·obtain ⟨o, ho⟩ : ∃ o, o = opAt c.ops k := ⟨_, rfl⟩
   obtain ⟨ad, had, hx0, hx1, hx2⟩ := op_cells (H.out.below HB.out).h2 k hlt o ho 0 rfl
   have HOP : Hid (opOk c o = true) := Lib.hid (by rw [ho, op_get _ _ hlt]; exact List.all_eq_true.1 OK.out.ops _ (List.getElem_mem hlt))
   obtain ⟨N, hN⟩ : ∃ N : Nat, o.f0 = N := ⟨o.f0.toNat, by have := of_decide_eq_true (and2 (and2 HOP.out).1).1; omega⟩
   have hN31 : N < 31 := by have := of_decide_eq_true (and2 (and2 HOP.out).1).2; omega
   have hN31i : (N : Int) < 31 := by omega
   obtain ⟨f0, f1, f2⟩ := o
   change f0 = N at hN
   subst hN
   have HO1 := Lib.hid ho
   clear ho
   change a2 = some ad at had
   subst had
   have hxx0 : wr.cell? (ad.add (k * 3)) = some (.int .i64 N) := hx0
   have hxx1 : wr.cell? ⟨(ad.add (k * 3)).block, (ad.add (k * 3)).off + 1, none⟩ = some (.int .i64 f1) := hx1
   have hxx2 : wr.cell? ⟨(ad.add (k * 3)).block, (ad.add (k * 3)).off + 2, none⟩ = some (.int .i64 f2) := hx2
   clear hx0 hx1 hx2
   have hOO := HO.out
   have hy0 : (wr.alloc (.cells #[.int .i64 N, .int .i64 f1, .int .i64 f2] 35)).cell? ⟨wr.heap.size, 0, none⟩ = some (.int .i64 N) := (blk_cell (heap_alloc_new wr _) 0).trans rfl
   have hy1 : (wr.alloc (.cells #[.int .i64 N, .int .i64 f1, .int .i64 f2] 35)).cell? ⟨wr.heap.size, 1, none⟩ = some (.int .i64 f1) := (blk_cell (heap_alloc_new wr _) 1).trans rfl
   have hy2 : (wr.alloc (.cells #[.int .i64 N, .int .i64 f1, .int .i64 f2] 35)).cell? ⟨wr.heap.size, 2, none⟩ = some (.int .i64 f2) := (blk_cell (heap_alloc_new wr _) 2).trans rfl
   have HYB : Hid (BoxAt (wr.alloc (.cells #[.int .i64 N, .int .i64 f1, .int .i64 f2] 35)) wr.heap.size #[.int .i64 N, .int .i64 f1, .int .i64 f2] 35) := Lib.hid (heap_alloc_new wr _)
   have HX7 := Lib.hid (blk_alloc HX.out (.cells #[.int .i64 N, .int .i64 f1, .int .i64 f2] 35))
   have HK7 := Lib.hid (blk_alloc HK.out (.cells #[.int .i64 N, .int .i64 f1, .int .i64 f2] 35))
   have HB7 := Lib.hid (HB.out.alloc HB.out.size (.cells #[.int .i64 N, .int .i64 f1, .int .i64 f2] 35))
   have HS7 : Hid (Below w5.heap.size w5 (wr.alloc (.cells #[.int .i64 N, .int .i64 f1, .int .i64 f2] 35))) := Lib.hid (HS.out.alloc HS.out.size _)
   clear HX HK HB HS
   go_wp2_with fail
   generalize (wr.alloc (.cells #[.int .i64 N, .int .i64 f1, .int .i64 f2] 35)) = wq at *
   have HR7 : Hid (Rd w w5 c ⟨a1, b1, some ad, b2, a3, b3⟩ B wr.heap.size ⟨N, f1, f2⟩ wq) := Lib.hid ⟨HX7.out, HYB.out, HK7.out, HB7.out, HS7.out⟩
   clear HX7 HYB HK7 HB7 HS7 hy0 hy1 hy2
   have hopS := op_small HOP.out OK.out.p (by have := OK.out.cd.l; omega) OK.out.cd.a.d
   have HKS := Lib.hid (kind_small N hN31)
   have HOS := Lib.hid hopS
   clear hopS hxx0 hxx1 hxx2
   generalize wr.heap.size = g at *
   go_cut [45] (fun v45 wc => v45 = .bool (!fitsB ⟨N, f1, f2⟩ d (kindAt N) (decide (0 < k) && (opAt c.ops (k - 1)).f0 == 19)) ∧ Hid (Rd w w5 c ⟨a1, b1, some ad, b2, a3, b3⟩ B g ⟨N, f1, f2⟩ wc))
   case first =>
    obtain ⟨k0, k1, k2, k3⟩ := kindCell N hN31 wq B HR7.out.k
    obtain ⟨y0, y1, y2, c2⟩ := HR7.out.cells
    by_cases hk0 : 0 < k
    ·obtain ⟨m, hm⟩ : ∃ m : Nat, k = m + 1 := ⟨k - 1, by omega⟩
     have hmi : (k : Int) - 1 = (m : Int) := by omega
     have hml : m < c.ops.length := by omega
     have hml2 : (m : Int) < c.ops.length := by omega
     have z0 := HR7.out.op H.out m hml
     have HM := Lib.hid hm
     clear hm
     have hg := eq_true hk0
     have HK0 := Lib.hid hk0
     have hwm : IntKind.i64.wrap (m : Int) = (m : Int) := IntWalk.i64_in _ (by omega)
     clear hk0
     go_still_tail 18, (by kernel_rfl)
     change wpList _ _ _ _ _ wq.drew
     have HR8 := Lib.hid HR7.out.drew
     clear k0 k1 k2 k3 y0 y1 y2 c2 z0 HR7
     generalize wq.drew = wd at *
     go_wp2_with fail
     refine (fits_calls ⟨N, f1, f2⟩ d (kindAt N) _ _ (by have := HDD.out; unfold Small; omega) HKS.out.1).mono ?_
     rintro e w8 ⟨rfl, hb⟩
     have HR9 := Lib.hid (HR8.out.step hb)
     clear hb hmi hml2 hwm
     go_wp2_with fail
     go_meet
     case rel => exact ⟨by rw [decide_eq_true HK0.out, Bool.true_and, show k - 1 = m by have := HM.out; omega], HR9⟩
    ·have hg := eq_false hk0
     have HK0 := Lib.hid hk0
     clear hk0
     refine wp_region_still_tail 18 (by kernel_rfl) (by kernel_rfl) ?_
     simp only [List.take_succ_cons, List.take_zero, List.drop_succ_cons, List.drop_zero]
     iterate 9 still_step
     iterate 8 (with_reducible refine wpStill_skip ?hw ?_; (case hw => kernel_rfl))
     simp only [Act.put, List.setIfInBounds_toArray, List.set_cons_zero, List.set_cons_succ]
     with_reducible refine wpStill_step (fun K hK => ?_)
     go_simp
     with_reducible refine hK _ ?_
     clear hK K
     with_reducible refine wpStill_nil ?_
     change wpList _ _ _ _ _ wq.drew
     have HR8 := Lib.hid HR7.out.drew
     clear k0 k1 k2 k3 y0 y1 y2 c2 HR7
     generalize wq.drew = wd at *
     go_wp2_with fail
     refine (fits_calls ⟨N, f1, f2⟩ d (kindAt N) false _ (by have := HDD.out; unfold Small; omega) HKS.out.1).mono ?_
     rintro e w8 ⟨rfl, hb⟩
     have HR9 := Lib.hid (HR8.out.step hb)
     clear hb
     go_wp2_with fail
     go_meet
     case rel => exact ⟨by rw [decide_eq_false HK0.out, Bool.false_and], HR9⟩
   case rest =>
    clear HR7
    obtain ⟨rfl, HR⟩ := hcut
    have HSG : Hid (stackGo c.ops (placR c).1 k d = if (fitsB ⟨N, f1, f2⟩ d (kindAt N) (decide (0 < k) && (opAt c.ops (k - 1)).f0 == 19) && decide (2 ≤ afterI ⟨N, f1, f2⟩ d (kindAt N)) && decide (afterI ⟨N, f1, f2⟩ d (kindAt N) ≤ 4000) && jumpOk c.ops (placR c).1 ⟨N, f1, f2⟩ && fallOk c.ops k ⟨N, f1, f2⟩) = true then stackGo c.ops (placR c).1 (k + 1) (afterI ⟨N, f1, f2⟩ d (kindAt N)) else false) := Lib.hid (by rw [stackGo, if_pos hlt, ← HO1.out])
    generalize hft : fitsB ⟨N, f1, f2⟩ d (kindAt N) (decide (0 < k) && (opAt c.ops (k - 1)).f0 == 19) = ft at *
    cases ft with
    | false =>
     have HN : Hid (stackedB c = false) := Lib.hid (by rw [HA.out, HSG.out, Bool.false_and, Bool.false_and, Bool.false_and, Bool.false_and]; rfl)
     clear hft
     go_wp2_with fail
     go_ret
     exact ⟨by rw [HN.out]; rfl, HR.out.b⟩
    | true =>
     clear hft
     obtain ⟨k0, k1, k2, k3⟩ := kindCell N hN31 wc B HR.out.k
     obtain ⟨y0, y1, y2, c2⟩ := HR.out.cells
     go_wp2_with fail
     go_still_tail 6, (by kernel_rfl)
     change wpList _ _ _ _ _ wc.drew
     have HR2 := Lib.hid HR.out.drew
     clear k0 k1 k2 k3 y0 y1 y2 c2 HR
     generalize wc.drew = wd at *
     go_wp2_with fail
     refine (after_calls ⟨N, f1, f2⟩ d (kindAt N) _ HOS.out.1 HOS.out.2 (by have := HDD.out; unfold Small; omega) HKS.out.1 HKS.out.2).mono ?_
     rintro e w8 ⟨rfl, hb⟩
     have HR3 := Lib.hid (HR2.out.step hb)
     clear hb HR2
     generalize had : afterI ⟨N, f1, f2⟩ d (kindAt N) = d2 at *
     have HAD := Lib.hid had
     clear had
     obtain ⟨y0, y1, y2, c2⟩ := HR3.out.cells
     by_cases h2 : d2 < 2
     ·have HN : Hid (stackedB c = false) := Lib.hid (by rw [HA.out, HSG.out, decide_eq_false (by omega : ¬ 2 ≤ d2)]; simp)
      have hd2 : decide (d2 < 2) = true := decide_eq_true h2
      clear h2
      go_wp2_with fail
      go_ret
      exact ⟨by rw [HN.out]; rfl, HR3.out.b⟩
     by_cases h4 : d2 > 4000
     ·have HN : Hid (stackedB c = false) := Lib.hid (by rw [HA.out, HSG.out, decide_eq_false (by omega : ¬ d2 ≤ 4000)]; simp)
      have hd2 : decide (d2 < 2) = false := decide_eq_false h2
      have hd4 : decide (d2 > 4000) = true := decide_eq_true h4
      clear h2 h4
      go_wp2_with fail
      go_ret
      exact ⟨by rw [HN.out]; rfl, HR3.out.b⟩
     have HD2 : Hid (0 ≤ d2 ∧ d2 ≤ 4000) := Lib.hid (by omega)
     have HSG2 : Hid (stackGo c.ops (placR c).1 k d = if (jumpOk c.ops (placR c).1 ⟨N, f1, f2⟩ && fallOk c.ops k ⟨N, f1, f2⟩) = true then stackGo c.ops (placR c).1 (k + 1) d2 else false) := Lib.hid (by rw [HSG.out, decide_eq_true (by omega : 2 ≤ d2), decide_eq_true (by omega : d2 ≤ 4000)]; simp)
     have hd2 : decide (d2 < 2) = false := decide_eq_false h2
     have hd4 : decide (d2 > 4000) = false := decide_eq_false h4
     clear h2 h4 HSG
     go_wp2_with fail
     refine (named_calls ⟨N, f1, f2⟩ _).mono ?_
     rintro e w9 ⟨rfl, hb⟩
     have HR4 := Lib.hid (HR3.out.step hb)
     clear hb HR3 y0 y1 y2 c2 hd2 hd4
     have HNM := Lib.hid (named_ok OK.out.l HOP.out)
     go_wp2_with fail
     generalize hnm : namedI ⟨N, f1, f2⟩ = nm at *
     have HNE := Lib.hid hnm
     clear hnm
     go_cut [81] (fun v81 wc => v81 = .bool (!jumpOk c.ops (placR c).1 ⟨N, f1, f2⟩) ∧ Hid (Rd w w5 c ⟨a1, b1, some ad, b2, a3, b3⟩ B g ⟨N, f1, f2⟩ wc))
     case first =>
      obtain ⟨y0, y1, y2, c2⟩ := HR4.out.cells
      by_cases hn : 0 < nm
      ·have hlen := (placR_len OK.out.pl HL.out).1
       have hnl := HNM.out
       have hL := HL.out
       have hn1 : nm < ((placR c).1.length : Int) := by omega
       have hn0 : 0 ≤ nm := by omega
       obtain ⟨ad1, had1, hz⟩ := Kd.at_int HR1.out nm hn0 hn1
       have hz2 := (HR4.out.s.cell (World.block_lt_of_cell? w5 _ hz)).trans hz
       obtain ⟨hj0, hj1⟩ := placR_range c (by omega) nm
       obtain ⟨jn, hjn⟩ : ∃ jn : Nat, rd (placR c).1 nm = (jn : Int) := ⟨(rd (placR c).1 nm).toNat, by omega⟩
       rw [hjn] at hz2 hj0 hj1
       obtain ⟨jj, hlead, hjj⟩ := leads_some c.ops OK.out.ord c.ops.length jn (by omega) (by omega)
       have hjj2 : (jj : Int) < c.ops.length := by omega
       have z0 := HR4.out.op H.out jj hjj
       have HC2 := Lib.hid (H.out.below HR4.out.b)
       have hg := eq_true hn
       have HJ : Hid (jumpOk c.ops (placR c).1 ⟨N, f1, f2⟩ = (((opAt c.ops jj).f0 == 28) == ((N : Int) == 27))) := Lib.hid (by
        unfold jumpOk
        rw [HNE.out, decide_eq_true (show nm > 0 from hn), hjn, Int.toNat_natCast, leadOp_eq hlead]
        rfl)
       have HLD := Lib.hid hlead
       have HJ1 := Lib.hid (show jn ≤ c.ops.length by omega)
       clear hlead hjn hz hlen hnl hL hn hjj hj0 hj1
       subst had1
       go_quiet ((go_at_call 68; exact leads_quiet c.ops (some ad) b2 jn jj _ _ HC2.out.h2 HC2.out.l2 HJ1.out HO.out HLD.out))
       go_wp2_with fail
       go_meet
       case rel => exact ⟨by rw [HJ.out], Lib.hid (HR4.out.drewN _)⟩
      ·have hg := eq_false hn
       have HJ : Hid (jumpOk c.ops (placR c).1 ⟨N, f1, f2⟩ = true) := Lib.hid (by
        unfold jumpOk
        rw [HNE.out, decide_eq_false (show ¬ nm > 0 from hn)]
        rfl)
       have HN := Lib.hid hn
       clear hn
       go_quiet (fail)
       go_wp2_with fail
       go_meet
       case rel => exact ⟨by rw [HJ.out]; rfl, Lib.hid (HR4.out.drewN _)⟩
     case rest =>
      clear HR4
      obtain ⟨rfl, HR5⟩ := hcut
      generalize hjo : jumpOk c.ops (placR c).1 ⟨N, f1, f2⟩ = jo at *
      cases jo with
      | false =>
       have HN : Hid (stackedB c = false) := Lib.hid (by rw [HA.out, HSG2.out, Bool.false_and]; rfl)
       clear hjo
       go_wp2_with fail
       go_ret
       exact ⟨by rw [HN.out]; rfl, HR5.out.b⟩
      | true =>
       clear hjo
       go_wp2_with fail
       go_cut [112] (fun v112 wc => v112 = .bool (!fallOk c.ops k ⟨N, f1, f2⟩) ∧ Hid (Rd w w5 c ⟨a1, b1, some ad, b2, a3, b3⟩ B g ⟨N, f1, f2⟩ wc))
       case first =>
        obtain ⟨y0, y1, y2, c2⟩ := HR5.out.cells
        have HC2 := Lib.hid (H.out.below HR5.out.b)
        by_cases h19 : (N : Int) = 19
        ·have hb : ((N : Int) != 19) = false := bne_eq_false_iff_eq.2 h19
         have HJ : Hid (fallOk c.ops k ⟨N, f1, f2⟩ = true) := Lib.hid (by unfold fallOk; rw [show ((⟨N, f1, f2⟩ : Op).f0 == 19) = true from beq_iff_eq.2 h19]; rfl)
         clear h19
         go_quiet (fail)
         go_wp2_with fail
         go_meet
         case rel => exact ⟨by rw [HJ.out]; rfl, Lib.hid (HR5.out.drewN _)⟩
        have hb : ((N : Int) != 19) = true := bne_iff_ne.2 h19
        have HB19 : Hid (((⟨N, f1, f2⟩ : Op).f0 == 19) = false) := Lib.hid (beq_eq_false_iff_ne.2 h19)
        clear h19
        cases hen : endsB c.ops k with
        | true =>
         have HJ : Hid (fallOk c.ops k ⟨N, f1, f2⟩ = true) := Lib.hid (by unfold fallOk; rw [hen]; simp)
         have HEN := Lib.hid hen
         clear hen
         go_quiet ((go_at_call 69; exact ends_quiet c.ops (some ad) b2 k true _ _ HC2.out.h2 HC2.out.l2 hlt HO.out HEN.out))
         go_wp2_with fail
         go_meet
         case rel => exact ⟨by rw [HJ.out]; rfl, Lib.hid (HR5.out.drewN _)⟩
        | false =>
         have HEN := Lib.hid hen
         clear hen
         have hw1 : IntKind.i64.wrap ((k : Int) + 1) = (k : Int) + 1 := IntWalk.i64_in _ (by omega)
         have HW1 := Lib.hid hw1
         clear hw1
         by_cases hk1 : k + 1 < c.ops.length
         ·obtain ⟨jj, hlead, hjj⟩ := leads_some c.ops OK.out.ord c.ops.length (k + 1) (by omega) hk1
          have hjj2 : (jj : Int) < c.ops.length := by omega
          have z0 := HR5.out.op H.out jj hjj
          have HJ : Hid (fallOk c.ops k ⟨N, f1, f2⟩ = !((opAt c.ops jj).f0 == 28)) := Lib.hid (by unfold fallOk; rw [HB19.out, HEN.out, decide_eq_true hk1, leadOp_eq hlead]; simp)
          have HLD := Lib.hid hlead
          have HK1 := Lib.hid (Nat.le_of_lt hk1)
          have hg1 : ((k : Int) + 1 < (c.ops.length : Int)) = True := eq_true (by omega)
          have hg2 := eq_true hk1
          clear hlead hjj hk1
          have hw1 := HW1.out
          go_quiet ((first | (go_at_call 69; exact ends_quiet c.ops (some ad) b2 k false _ _ HC2.out.h2 HC2.out.l2 hlt HO.out HEN.out) | (go_at_call 68; exact leads_at c.ops (some ad) b2 (k + 1) jj _ (by simp) _ _ HC2.out.h2 HC2.out.l2 HK1.out HO.out HLD.out)))
          clear hw1
          go_wp2_with fail
          go_meet
          case rel => exact ⟨by rw [HJ.out, Bool.not_not], Lib.hid (HR5.out.drewN _)⟩
         ·have HJ : Hid (fallOk c.ops k ⟨N, f1, f2⟩ = true) := Lib.hid (by unfold fallOk; rw [decide_eq_false hk1]; simp)
          have hg1 : ((k : Int) + 1 < (c.ops.length : Int)) = False := eq_false (by omega)
          have hg2 := eq_false hk1
          have HK1 := Lib.hid hk1
          clear hk1
          have hw1 := HW1.out
          go_quiet ((go_at_call 69; exact ends_quiet c.ops (some ad) b2 k false _ _ HC2.out.h2 HC2.out.l2 hlt HO.out HEN.out))
          clear hw1
          go_wp2_with fail
          go_meet
          case rel => exact ⟨by rw [HJ.out]; rfl, Lib.hid (HR5.out.drewN _)⟩
       case rest =>
        clear HR5
        obtain ⟨rfl, HR6⟩ := hcut
        generalize hfo : fallOk c.ops k ⟨N, f1, f2⟩ = fo at *
        cases fo with
        | false =>
         have HN : Hid (stackedB c = false) := Lib.hid (by rw [HA.out, HSG2.out, Bool.and_false]; rfl)
         clear hfo
         go_wp2_with fail
         go_ret
         exact ⟨by rw [HN.out]; rfl, HR6.out.b⟩
        | true =>
         have HN : Hid (stackedB c = stackGo c.ops (placR c).1 (k + 1) d2) := Lib.hid (by rw [HA.out, HSG2.out]; rfl)
         clear hfo
         go_wp2_with fail
         go_roundw
         case rel => exact ⟨k + 1, d2, by omega, rfl, rfl, by go_num, HN, HD2, Lib.hid HR6.out.x, Lib.hid HR6.out.k, Lib.hid HR6.out.b, Lib.hid HR6.out.s⟩
         case measure => simp [intOf]; omega
  ·obtain rfl : k = c.ops.length := by omega
   have HN : Hid (stackedB c = true) := Lib.hid (by rw [HA.out, stackGo, if_neg (by omega)])
   go_wp2_with fail
   go_ret
   exact ⟨by rw [HN.out]; rfl, HB.out⟩
end Go.Proofs.Ytkmcanknbdaliaa.Lx
