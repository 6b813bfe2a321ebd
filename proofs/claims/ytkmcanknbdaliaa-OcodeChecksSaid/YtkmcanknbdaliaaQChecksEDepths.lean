/- The contract of ocode.Depths: by hand, in the printer's form. -/
import Derived.Test.YtkmcanknbdaliaaQChecksCheck
import Derived.Test.YtkmcanknbdaliaaQChecksStacked
namespace Go.Proofs.Ytkmcanknbdaliaa.Lx
open Go Go.RowKit Go.Proofs.YtkmcanknbdaliaaW.PrintWords Go.Proofs.YtkmcanknbdaliaaW.PrintLast Go.Proofs.YtkmcanknbdaliaaW.PrintMore Go.Proofs.Ytkmcanknbdaliaa.PO
/-- The depth ahead of an instruction. -/
def ahead (o : S35) (d : Int) : Int := if o.f0 = 24 then 0 else d
def depthsL : List S35 → Int → List Int
 | [], _ => []
 | o :: l, d => ahead o d :: depthsL l (afterI o d (kindAt o.f0))
def depthsR (c : Cod) : List Int × Int := if checkI c = 0 then (depthsL c.ops 0, 0) else ([], checkI c)
theorem after_ahead (o : S35) (d : Int) (x : SKind) : afterI o (ahead o d) x = afterI o d x := by
 unfold ahead
 by_cases h : o.f0 = 24
 ·rw [if_pos h]
  unfold afterI
  have n18 : ¬ o.f0 = 18 := by rw [h]; decide
  rw [if_neg n18, if_pos h, if_neg n18, if_pos h]
 ·rw [if_neg h]
theorem stackGo_next {l : List S35} {at_ : List Int} {i : Nat} {d : Int} (hi : i < l.length) (h : stackGo l at_ i d = true) :
  2 ≤ afterI (opAt l i) d (kindAt (opAt l i).f0) ∧ afterI (opAt l i) d (kindAt (opAt l i).f0) ≤ 4000 ∧ stackGo l at_ (i + 1) (afterI (opAt l i) d (kindAt (opAt l i).f0)) = true := by
 rw [stackGo, if_pos hi] at h
 by_cases g : (fitsB (opAt l i) d (kindAt (opAt l i).f0) (decide (0 < i) && (opAt l (i - 1)).f0 == 19) && decide (2 ≤ afterI (opAt l i) d (kindAt (opAt l i).f0)) && decide (afterI (opAt l i) d (kindAt (opAt l i).f0) ≤ 4000) && jumpOk l at_ (opAt l i) && fallOk l i (opAt l i)) = true
 ·rw [if_pos g] at h
  have g1 := and2 g
  have g2 := and2 g1.1
  have g3 := and2 g2.1
  have g4 := and2 g3.1
  exact ⟨of_decide_eq_true g4.2, of_decide_eq_true g3.2, h⟩
 ·rw [if_neg g] at h
  exact absurd h (by decide)
theorem depthsL_len : ∀ (l : List S35) (d : Int), (depthsL l d).length = l.length
 | [], _ => rfl
 | o :: l, d => by rw [depthsL, List.length_cons, depthsL_len l, List.length_cons]
def DepPost (w : World) (r : List Int × Int) (e : Ending) (w' : World) : Prop := ∃ v0_ : Value, e = .returned (.tuple #[v0_, .int .i64 r.2]) ∧ Kd.R (Kd.int .i64) 3 w' w.heap.size (fun _ => True) v0_ r.1 ∧ Below w.heap.size w w'
set_option maxRecDepth 100000 in
set_option maxHeartbeats 1000000 in
theorem depths_calls (c : Cod) (a : Adr) (w : World) (h : CodAt w c a) (hf : Fine c) : Calls Try.prog 16 #[.agg (codCells c a)] w (DepPost w (depthsR c)) := by
 obtain ⟨a1, b1, a2, b2, a3, b3⟩ := a
 have H := Lib.hid h
 have HF := Lib.hid hf
 clear h hf
 unfold codCells
 go_enter Try.func16, Try.ntmps16
 go_wp2_with fail
 refine (check_calls c ⟨a1, b1, a2, b2, a3, b3⟩ _ (H.out.below (below_alloc (Below.refl _ _) _)) HF.out).mono ?_
 rintro e w2 ⟨rfl, hb⟩
 have HB0 : Hid (Below w.heap.size w (w.alloc (.cells #[.string c.name, .slice a1 c.data.length b1, .slice a2 c.ops.length b2, .slice a3 c.gl.length b3, .int .i64 c.procs, .int .i64 c.labels] 26))) := Lib.hid (below_alloc (Below.refl _ _) _)
 have HB := Lib.hid (below_step HB0.out hb)
 have HX := Lib.hid (blk_below (heap_alloc_new w (.cells #[.string c.name, .slice a1 c.data.length b1, .slice a2 c.ops.length b2, .slice a3 c.gl.length b3, .int .i64 c.procs, .int .i64 c.labels] 26)) hb)
 clear hb HB0
 by_cases hc : checkI c = 0
 case neg =>
  have hb0 : (checkI c != 0) = true := bne_iff_ne.2 hc
  have HN : Hid (depthsR c = ([], checkI c)) := Lib.hid (by unfold depthsR; rw [if_neg hc])
  clear hc
  go_wp2_with fail
  go_ret2
  rw [HN.out]
  exact ⟨.slice none 0 0, rfl, Kd.R_nil _ _ _ _ _, HB.out⟩
 have hb0 : (checkI c != 0) = false := bne_eq_false_iff_eq.2 hc
 have HN : Hid (depthsR c = (depthsL c.ops 0, 0)) := Lib.hid (by unfold depthsR; rw [if_pos hc])
 have HV := Lib.hid (check_ok HF.out hc)
 clear hc
 go_wp2_with fail
 refine (kinds_calls _).mono ?_
 rintro e w3 ⟨rfl, rfl⟩
 obtain ⟨WT, hWT⟩ : ∃ WT, WT = (w2.alloc (.cells kindCells 54)).alloc (.cells kindCells 54) := ⟨_, rfl⟩
 have HBT : Hid (Below w.heap.size w WT) := Lib.hid (by rw [hWT]; exact below_alloc (below_alloc HB.out _) _)
 have HXT : Hid (BoxAt WT w.heap.size (codCells c ⟨a1, b1, a2, b2, a3, b3⟩) 26) := Lib.hid (by rw [hWT]; exact blk_alloc (blk_alloc HX.out _) _)
 have HKT : Hid (BoxAt WT (w2.heap.size + 1) kindCells 54) := Lib.hid (by rw [hWT]; have := heap_alloc_new (w2.alloc (.cells kindCells 54)) (.cells kindCells 54); simpa [BoxAt] using this)
 have hf2 : WT.cell? ⟨w.heap.size, 2, none⟩ = some (.slice a2 c.ops.length b2) := (blk_cell HXT.out 2).trans rfl
 go_wp2_with (first | (refine wpList_store_table rfl 54 (.tmp 5) (.tmp 15) rfl (w2.alloc (.cells kindCells 54)) (w2.heap.size + 1) (by simp) kindCells Try.zeroCells54 54 rfl ?h5 ?h6 ?h1 ?h2 ?h3 ?_; (case h1 => kernel_rfl); (case h2 => kernel_rfl); (case h3 => kernel_rfl); (case h5 => rfl); (case h6 => kernel_rfl); rw [← hWT]; clear hWT))
 clear hf2 HB HX
 generalize w2.heap.size + 1 = B at *
 have HO := Lib.hid HF.out.o
 go_loopw [6, 7, 19] (fun v6 v7 v19 wr => ∃ (k : Nat) (d : Int) (xs : List Int), k ≤ c.ops.length ∧ v7 = .int .i64 d ∧ v19 = .int .i64 k ∧ Hid (depthsL c.ops 0 = xs ++ depthsL (c.ops.drop k) d) ∧ Hid (xs.length = k) ∧ Hid (stackGo c.ops (placR c).1 k d = true) ∧ Hid (0 ≤ d ∧ d ≤ 4000) ∧ Hid (Kd.R (Kd.int .i64) 3 wr w.heap.size (fun _ => True) v6 xs) ∧ Hid (BoxAt wr w.heap.size (codCells c ⟨a1, b1, a2, b2, a3, b3⟩) 26) ∧ Hid (BoxAt wr B kindCells 54) ∧ Hid (Below w.heap.size w wr)) (fun _ _ i _ => c.ops.length - (intOf i).toNat)
 case atStart => exact ⟨0, 0, [], by omega, rfl, rfl, Lib.hid rfl, Lib.hid rfl, Lib.hid HV.out.stacked, Lib.hid (by omega), Lib.hid (Kd.R_nil _ _ _ _ _), HXT, HKT, HBT⟩
 case round =>
  clear HXT HKT HBT
  obtain ⟨k, d, xs, hk, rfl, rfl, HA, HXL, HS, HDD, HR, HX, HK, HB⟩ := hrel
  by_cases hlt : k < c.ops.length
  ·obtain ⟨o, ho⟩ : ∃ o, o = opAt c.ops k := ⟨_, rfl⟩
   obtain ⟨ad, had, hx0, hx1, hx2⟩ := op_cells (H.out.below HB.out).h2 k hlt o ho 0 rfl
   have HOP : Hid (opOk c o = true) := Lib.hid (by rw [ho, op_get _ _ hlt]; exact List.all_eq_true.1 HV.out.st.ops _ (List.getElem_mem hlt))
   obtain ⟨N, hN⟩ : ∃ N : Nat, o.f0 = N := ⟨o.f0.toNat, by have := of_decide_eq_true (and2 (and2 HOP.out).1).1; omega⟩
   have hN31 : N < 31 := by have := of_decide_eq_true (and2 (and2 HOP.out).1).2; omega
   have hN31i : (N : Int) < 31 := by omega
   have HNX := Lib.hid (stackGo_next hlt HS.out)
   have HD1 : Hid (depthsL (c.ops.drop k) d = ahead o d :: depthsL (c.ops.drop (k + 1)) (afterI o d (kindAt o.f0))) := Lib.hid (by rw [drop_opAt _ _ hlt, depthsL, ← ho])
   rw [← ho] at HNX
   obtain ⟨f0, f1, f2⟩ := o
   change f0 = N at hN
   subst hN
   clear ho
   change a2 = some ad at had
   subst had
   have hxx0 : wr.cell? (ad.add (k * 3)) = some (.int .i64 N) := hx0
   have hxx1 : wr.cell? ⟨(ad.add (k * 3)).block, (ad.add (k * 3)).off + 1, none⟩ = some (.int .i64 f1) := hx1
   have hxx2 : wr.cell? ⟨(ad.add (k * 3)).block, (ad.add (k * 3)).off + 2, none⟩ = some (.int .i64 f2) := hx2
   clear hx0 hx1 hx2
   have hOO := HO.out
   have hopS := op_small HOP.out HV.out.st.p HV.out.st.cd.l HV.out.fine.d
   have HKS := Lib.hid (kind_small N hN31)
   have HOS := Lib.hid hopS
   clear hopS
   have hy0 : (wr.alloc (.cells #[.int .i64 N, .int .i64 f1, .int .i64 f2] 35)).cell? ⟨wr.heap.size, 0, none⟩ = some (.int .i64 N) := (blk_cell (heap_alloc_new wr _) 0).trans rfl
   go_upto_if 25 with (fail)
   have HR7 : Hid (Rd w w c ⟨a1, b1, some ad, b2, a3, b3⟩ B wr.heap.size ⟨N, f1, f2⟩ (wr.alloc (.cells #[.int .i64 N, .int .i64 f1, .int .i64 f2] 35))) := Lib.hid ⟨blk_alloc HX.out _, heap_alloc_new wr _, blk_alloc HK.out _, below_alloc HB.out _, below_alloc HB.out _⟩
   have HRR : Hid (Kd.R (Kd.int .i64) 3 (wr.alloc (.cells #[.int .i64 N, .int .i64 f1, .int .i64 f2] 35)) w.heap.size (fun _ => True) u6 xs) := Lib.hid (Kd.R_alloc HR.out _)
   clear HX HK HB HR hxx0 hxx1 hxx2 hy0
   generalize wr.heap.size = g at *
   generalize (wr.alloc (.cells #[.int .i64 N, .int .i64 f1, .int .i64 f2] 35)) = wq at *
   go_cut [7] (fun v7 wc => v7 = .int .i64 (ahead ⟨N, f1, f2⟩ d) ∧ Hid (wc = wq))
   case first =>
    by_cases h24 : (N : Int) = 24
    ·have hb : ((N : Int) == 24) = true := beq_iff_eq.2 h24
     have HJ : Hid (ahead ⟨N, f1, f2⟩ d = 0) := Lib.hid (by unfold ahead; exact if_pos h24)
     clear h24
     go_wp2_with fail
     go_meet
     case rel => exact ⟨by rw [HJ.out], Lib.hid rfl⟩
    ·have hb : ((N : Int) == 24) = false := beq_eq_false_iff_ne.2 h24
     have HJ : Hid (ahead ⟨N, f1, f2⟩ d = d) := Lib.hid (by unfold ahead; exact if_neg h24)
     clear h24
     go_wp2_with fail
     go_meet
     case rel => exact ⟨by rw [HJ.out], Lib.hid rfl⟩
   case rest =>
    obtain ⟨rfl, hwc⟩ := hcut
    have hwc := hwc.out
    subst hwc
    have HAH : Hid (Small (ahead ⟨N, f1, f2⟩ d)) := Lib.hid (by have := HDD.out; unfold ahead Small; split <;> omega)
    have HAF : Hid (afterI ⟨N, f1, f2⟩ (ahead ⟨N, f1, f2⟩ d) (kindAt N) = afterI ⟨N, f1, f2⟩ d (kindAt N)) := Lib.hid (after_ahead _ _ _)
    generalize hah : ahead ⟨N, f1, f2⟩ d = d1 at *
    have HAHE := Lib.hid hah
    clear hah
    have HLM : Hid ((xs.length + 1) * 8 ≤ 140737488355328) := Lib.hid (by have := HXL.out; omega)
    go_wp2_with (first | ((with_reducible refine gate_builtin (b := .append) (xs := #[.tmp 26, .tmp 28]) rfl ?_); at_builtin; refine Kd.R_append (Kd.int .i64) (w0 := w) w.heap.size rfl (.tmp 26) (.tmp 28) 29 3 (.int .i64 0) 8 rfl Try.underlying29 info3 rfl (by decide) (by omega) u6 xs d1 [.int .i64 d1] (fun _ => True) (fun _ => False) rfl rfl ?aP (fun _ hk => hk.elim) ?aF ?aO ?aB ?aS ?aL ?_; (case aP => exact rfl); (case aB => exact HR7.out.b); (case aF => exact (fun _ _ => trivial)); (case aO => exact HRR.out); (case aS => exact HR7.out.b.size); (case aL => exact HLM.out); intro v13 w13 ho hb hg hat; have HR8 : Hid (Rd w w c ⟨a1, b1, some ad, b2, a3, b3⟩ B g ⟨N, f1, f2⟩ w13) := Lib.hid ⟨blk_grown HR7.out.x hg (Kd.R_ne HRR.out HR7.out.x (by decide)), blk_grown HR7.out.y hg (Kd.R_ne HRR.out HR7.out.y (by decide)), blk_grown HR7.out.k hg (Kd.R_ne HRR.out HR7.out.k (by decide)), hb, hb⟩; have HRN := Lib.hid ho; clear ho hb hg hat HR7 HRR))
    obtain ⟨k0, k1, k2, k3⟩ := kindCell N hN31 w13 B HR8.out.k
    obtain ⟨y0, y1, y2, c2⟩ := HR8.out.cells
    go_still_tail 6, (by kernel_rfl)
    change wpList _ _ _ _ _ w13.drew
    have HR9 := Lib.hid HR8.out.drew
    have HRN2 := Lib.hid (Kd.R_drew HRN.out)
    clear k0 k1 k2 k3 y0 y1 y2 c2 HR8 HRN
    generalize w13.drew = wd at *
    go_wp2_with fail
    refine (after_calls ⟨N, f1, f2⟩ d1 (kindAt N) _ HOS.out.1 HOS.out.2 HAH.out HKS.out.1 HKS.out.2).mono ?_
    rintro e w8 ⟨rfl, hb⟩
    have HR10 := Lib.hid (HR9.out.step hb)
    have HRN3 := Lib.hid (Kd.R_below HRN2.out hb)
    clear hb HR9 HRN2
    rw [HAF.out]
    go_wp2_with fail
    go_roundw
    case rel =>
     refine ⟨k + 1, afterI ⟨N, f1, f2⟩ d (kindAt N), xs ++ [d1], by omega, rfl, by go_num, Lib.hid ?_, Lib.hid ?_, Lib.hid HNX.out.2.2, Lib.hid ?_, HRN3, Lib.hid HR10.out.x, Lib.hid HR10.out.k, Lib.hid HR10.out.b⟩
     ·rw [HA.out, HD1.out, List.append_assoc]; rfl
     ·rw [List.length_append, HXL.out]; rfl
     ·have h1 := HNX.out.1
      have h2 := HNX.out.2.1
      exact ⟨Int.le_trans (by decide) h1, h2⟩
    case measure => simp [intOf]; omega
  ·obtain rfl : k = c.ops.length := by omega
   rw [List.drop_length] at HA
   go_wp2_with fail
   go_ret2
   rw [HN.out]
   refine ⟨_, rfl, ?_, HB.out⟩
   rw [show depthsL c.ops 0 = xs by rw [HA.out, depthsL, List.append_nil]]
   exact HR.out
end Go.Proofs.Ytkmcanknbdaliaa.Lx
namespace Go.Proofs.Ytkmcanknbdaliaa.PO
open Go Go.RowKit Go.Proofs.YtkmcanknbdaliaaW.PrintWords Go.Proofs.YtkmcanknbdaliaaW.PrintLast Go.Proofs.YtkmcanknbdaliaaW.PrintMore Go.Proofs.Ytkmcanknbdaliaa.Lx
def ocode_Depths.f (a0_0 : ByteArray) (l0_1 : List S47) (l0_2 : List S35) (l0_3 : List S68) (a0_4 : Int) (a0_5 : Int) : Option (List Int × Int) :=
 if fineB ⟨a0_0, l0_1, l0_2, l0_3, a0_4, a0_5⟩ = true then some (depthsR ⟨a0_0, l0_1, l0_2, l0_3, a0_4, a0_5⟩) else none
theorem ocode_Depths.calls (a0_0 : ByteArray) (A0_1 : Option Addr) (c0_1 : Nat) (l0_1 : List S47) (A0_2 : Option Addr) (c0_2 : Nat) (l0_2 : List S35) (A0_3 : Option Addr) (c0_3 : Nat) (l0_3 : List S68) (a0_4 : Int) (a0_5 : Int) (r1 : List Int) (r2 : Int) (w : World) (hr0_1 : Kd.C k47 w A0_1 l0_1.length l0_1) (hc0_1 : l0_1.length ≤ c0_1) (hr0_2 : Kd.C k35 w A0_2 l0_2.length l0_2) (hc0_2 : l0_2.length ≤ c0_2) (hr0_3 : Kd.C k68 w A0_3 l0_3.length l0_3) (hc0_3 : l0_3.length ≤ c0_3) (h : ocode_Depths.f a0_0 l0_1 l0_2 l0_3 a0_4 a0_5 = some (r1, r2)) :
  Calls Try.prog 16 #[.agg #[.string a0_0, .slice A0_1 l0_1.length c0_1, .slice A0_2 l0_2.length c0_2, .slice A0_3 l0_3.length c0_3, .int .i64 a0_4, .int .i64 a0_5]] w fun e w' => ∃ v0_ : Value, e = .returned (.tuple #[v0_, .int .i64 r2]) ∧ Kd.R (Kd.int .i64) 3 w' w.heap.size (fun _ => True) v0_ r1 ∧ Below w.heap.size w w' := by
 unfold ocode_Depths.f at h
 by_cases g : fineB ⟨a0_0, l0_1, l0_2, l0_3, a0_4, a0_5⟩ = true
 ·rw [if_pos g] at h
  injection h with h
  have q := depths_calls ⟨a0_0, l0_1, l0_2, l0_3, a0_4, a0_5⟩ ⟨A0_1, c0_1, A0_2, c0_2, A0_3, c0_3⟩ w ⟨hr0_1, hc0_1, hr0_2, hc0_2, hr0_3, hc0_3⟩ ((fine_iff _).1 g)
  rw [h] at q
  exact q
 ·rw [if_neg g] at h
  exact absurd h (by simp)
end Go.Proofs.Ytkmcanknbdaliaa.PO
