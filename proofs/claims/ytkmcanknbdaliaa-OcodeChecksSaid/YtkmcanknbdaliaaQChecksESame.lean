/- The contract of ocode.Same: by hand, in the printer's form. -/
import Derived.Test.YtkmcanknbdaliaaQChecksEqs
import Derived.Test.YtkmcanknbdaliaaQChecks5
import Derived.Test.YtkmcanknbdaliaaQChecksStacked
namespace Go.Proofs.Ytkmcanknbdaliaa.Lx
open Go Go.RowKit Go.Proofs.YtkmcanknbdaliaaW.PrintWords Go.Proofs.YtkmcanknbdaliaaW.PrintLast Go.Proofs.YtkmcanknbdaliaaW.PrintMore Go.Proofs.Ytkmcanknbdaliaa.PO
def eqD (a b : S47) : Bool := a.f1 == b.f1 && (a.f0.toList == b.f0.toList && eqLB eqI a.f2 b.f2)
def sameB (c d : Cod) : Bool := c.name.toList == d.name.toList && (c.procs == d.procs && (c.labels == d.labels && (eqLB eqO c.ops d.ops && (eqLB eqE c.gl d.gl && eqLB eqD c.data d.data))))
theorem same1_f (a b : S47) (h : a.f2.length ≤ 1000000) : ocode_Same_1.f (a.f2.length + 1) a.f0 a.f1 a.f2 b.f0 b.f1 b.f2 = some (eqD a b) := by
 unfold ocode_Same_1.f eqD
 cases h1 : a.f1 == b.f1 with
 | false => rw [if_neg (by decide)]; rfl
 | true =>
  rw [if_pos rfl]
  by_cases h2 : a.f0.toList = b.f0.toList
  ·rw [if_pos h2, beq_iff_eq.2 h2, slices_Equal_int_int_f _ _ (by omega) _ (by omega)]; rfl
  ·rw [if_neg h2, beq_eq_false_iff_ne.2 h2]; rfl
theorem data_cells {l : List S47} {A : Option Addr} {w W : World} (h : Kd.C k47 w A l.length l) (i : Nat) (hi : i < l.length) (d : S47) (hd : d = rd_T47 l (i : Int)) (hb : Below w.heap.size w W) :
  ∃ ad A2 c2, A = some ad ∧ W.cell? (ad.add (i * 3)) = some (.string d.f0) ∧ W.cell? ⟨(ad.add (i * 3)).block, (ad.add (i * 3)).off + 1, none⟩ = some (.bool d.f1) ∧ W.cell? ⟨(ad.add (i * 3)).block, (ad.add (i * 3)).off + 2, none⟩ = some (.slice A2 d.f2.length c2) ∧ d.f2.length ≤ c2 ∧ (Kd.int .i64).C W A2 d.f2.length d.f2 := by
 subst hd
 obtain ⟨ad, A2, c2, e, h0, h1, h2, h3, h4⟩ := at_T47 h (i : Int) (by omega) (by omega)
 rw [Int.toNat_natCast] at h0 h1 h2
 exact ⟨ad, A2, c2, e, (hb.cell (World.block_lt_of_cell? w _ h0)).trans h0, (hb.cell (World.block_lt_of_cell? w _ h1)).trans h1, (hb.cell (World.block_lt_of_cell? w _ h2)).trans h2, h3, Kd.C_below h4 hb⟩
set_option maxRecDepth 100000 in
set_option maxHeartbeats 1000000 in
theorem equalFunc_calls (l m : List S47) (A1 : Option Addr) (c1 : Nat) (A2 : Option Addr) (c2 : Nat) (w : World) (h1 : Kd.C k47 w A1 l.length l) (h2 : Kd.C k47 w A2 m.length m) (hl : l.length ≤ 1000000) (hw : ∀ d ∈ l, d.f2.length ≤ 1000000) :
  Calls Try.prog 52 #[.slice A1 l.length c1, .slice A2 m.length c2, .func (.func 48) #[] #[]] w fun e w' => e = .returned (.bool (eqLB eqD l m)) ∧ Below w.heap.size w w' := by
 have H1 := Lib.hid h1
 have H2 := Lib.hid h2
 have HW := Lib.hid hw
 clear h1 h2 hw
 by_cases hlen : l.length = m.length
 ·have hb : decide (l.length ≠ m.length) = false := decide_eq_false (by omega)
  have hb2 : ((l.length : Int) != (m.length : Int)) = false := bne_eq_false_iff_eq.2 (by omega)
  have hb3 : (l.length != m.length) = false := bne_eq_false_iff_eq.2 hlen
  have HE := Lib.hid hlen
  clear hlen
  go_enter Try.func52, Try.ntmps52
  go_wp2_with fail
  clear hb hb2 hb3
  go_loopw [17] (fun v17 wr => ∃ k : Nat, k ≤ l.length ∧ v17 = .int .i64 k ∧ Hid (eqLB eqD l m = eqLB eqD (l.drop k) (m.drop k)) ∧ Hid (Below w.heap.size w wr)) (fun i _ => l.length - (intOf i).toNat)
  case atStart => exact ⟨0, by omega, rfl, Lib.hid (by rw [List.drop_zero, List.drop_zero]), Lib.hid (Below.refl _ _)⟩
  case round =>
   obtain ⟨k, hk, rfl, HA, HB⟩ := hrel
   by_cases hlt : k < l.length
   ·have hltm : k < m.length := by have := HE.out; omega
    obtain ⟨x, hx⟩ : ∃ x, x = rd_T47 l (k : Int) := ⟨_, rfl⟩
    obtain ⟨y, hy⟩ : ∃ y, y = rd_T47 m (k : Int) := ⟨_, rfl⟩
    have HX : Hid (x.f2.length ≤ 1000000) := Lib.hid (by rw [hx]; exact HW.out _ (rdD_mem l k hlt))
    have HN : Hid (eqLB eqD l m = (eqD x y && eqLB eqD (l.drop (k + 1)) (m.drop (k + 1)))) := Lib.hid (by rw [HA.out, dropD l k hlt, dropD m k hltm, eqLB, hx, hy])
    obtain ⟨ad, B1, e1, rfl, hx0, hx1, hx2, hx3, hx4⟩ := data_cells H1.out k hlt x hx HB.out
    obtain ⟨bd, B2, e2, rfl, hy0, hy1, hy2, hy3, hy4⟩ := data_cells H2.out k hltm y hy (below_alloc HB.out (.cells #[.string x.f0, .bool x.f1, .slice B1 x.f2.length e1] 47))
    have HX3 := Lib.hid hx3
    have HX4 := Lib.hid hx4
    have HY3 := Lib.hid hy3
    have HY4 := Lib.hid hy4
    clear hx hy hx3 hx4 hy3 hy4
    have hlti : (k : Int) < (l.length : Int) := by omega
    have hltj : (k : Int) < (m.length : Int) := by omega
    go_wp2_with fail
    refine (ocode_Same_1.calls (x.f2.length + 1) x.f0 x.f1 B1 e1 x.f2 y.f0 y.f1 B2 e2 y.f2 _ _ (Kd.C_alloc (Kd.C_alloc HX4.out _) _) HX3.out (Kd.C_alloc HY4.out _) HY3.out (same1_f x y HX.out)).mono ?_
    rintro e w8 ⟨rfl, hb⟩
    have HB2 := Lib.hid (below_step (below_alloc (below_alloc HB.out _) _) hb)
    clear hb
    generalize hed : eqD x y = b at *
    clear hed
    cases b with
    | false =>
     have HF : Hid (eqLB eqD l m = false) := Lib.hid (by rw [HN.out]; rfl)
     go_wp2_with fail
     go_ret
     exact ⟨by rw [HF.out]; rfl, HB2.out⟩
    | true =>
     have HF : Hid (eqLB eqD l m = eqLB eqD (l.drop (k + 1)) (m.drop (k + 1))) := Lib.hid (by rw [HN.out]; rfl)
     go_wp2_with fail
     go_roundw
     case rel => exact ⟨k + 1, by omega, by go_num, HF, HB2⟩
     case measure => simp [intOf]; omega
   ·obtain rfl : k = l.length := by omega
    have HF : Hid (eqLB eqD l m = true) := Lib.hid (by rw [HA.out, List.drop_length, List.drop_eq_nil_of_le (by have := HE.out; omega)]; rfl)
    go_wp2_with fail
    go_ret
    exact ⟨by rw [HF.out]; rfl, HB.out⟩
 ·have hb2 : ((l.length : Int) != (m.length : Int)) = true := bne_iff_ne.2 (by omega)
  have hb3 : (l.length != m.length) = true := bne_iff_ne.2 hlen
  have HF : Hid (eqLB eqD l m = false) := Lib.hid (by
   cases h : eqLB eqD l m with
   | true => exact absurd (eqLB_len h) hlen
   | false => rfl)
  have HE := Lib.hid hlen
  clear hlen
  go_enter Try.func52, Try.ntmps52
  go_wp2_with fail
  go_ret
  exact ⟨by rw [HF.out]; rfl, Below.refl _ _⟩
set_option maxRecDepth 100000 in
set_option maxHeartbeats 1000000 in
theorem same_calls (c d : Cod) (a b : Adr) (w : World) (h : CodAt w c a) (h' : CodAt w d b) (hf : Fine c) : Calls Try.prog 23 #[.agg (codCells c a), .agg (codCells d b)] w fun e w' => e = .returned (.bool (sameB c d)) ∧ Below w.heap.size w w' := by
 obtain ⟨a1, b1, a2, b2, a3, b3⟩ := a
 obtain ⟨A1, B1, A2, B2, A3, B3⟩ := b
 have H := Lib.hid h
 have H' := Lib.hid h'
 have HF := Lib.hid hf
 clear h h' hf
 have HBB : Hid (Below w.heap.size w ((w.alloc (.cells (codCells c ⟨a1, b1, a2, b2, a3, b3⟩) 26)).alloc (.cells (codCells d ⟨A1, B1, A2, B2, A3, B3⟩) 26))) := Lib.hid (below_alloc (below_alloc (Below.refl _ _) _) _)
 have HS : Hid (sameB c d = (c.name.toList == d.name.toList && (c.procs == d.procs && (c.labels == d.labels && (eqLB eqO c.ops d.ops && (eqLB eqE c.gl d.gl && eqLB eqD c.data d.data)))))) := Lib.hid rfl
 unfold codCells at HBB ⊢
 have HX : Hid (BoxAt ((w.alloc (.cells #[.string c.name, .slice a1 c.data.length b1, .slice a2 c.ops.length b2, .slice a3 c.gl.length b3, .int .i64 c.procs, .int .i64 c.labels] 26)).alloc (.cells #[.string d.name, .slice A1 d.data.length B1, .slice A2 d.ops.length B2, .slice A3 d.gl.length B3, .int .i64 d.procs, .int .i64 d.labels] 26)) w.heap.size #[.string c.name, .slice a1 c.data.length b1, .slice a2 c.ops.length b2, .slice a3 c.gl.length b3, .int .i64 c.procs, .int .i64 c.labels] 26) := Lib.hid (blk_alloc (heap_alloc_new w _) _)
 have HY : Hid (BoxAt ((w.alloc (.cells #[.string c.name, .slice a1 c.data.length b1, .slice a2 c.ops.length b2, .slice a3 c.gl.length b3, .int .i64 c.procs, .int .i64 c.labels] 26)).alloc (.cells #[.string d.name, .slice A1 d.data.length B1, .slice A2 d.ops.length B2, .slice A3 d.gl.length B3, .int .i64 d.procs, .int .i64 d.labels] 26)) (w.heap.size + 1) #[.string d.name, .slice A1 d.data.length B1, .slice A2 d.ops.length B2, .slice A3 d.gl.length B3, .int .i64 d.procs, .int .i64 d.labels] 26) := Lib.hid (by have := heap_alloc_new (w.alloc (.cells #[.string c.name, .slice a1 c.data.length b1, .slice a2 c.ops.length b2, .slice a3 c.gl.length b3, .int .i64 c.procs, .int .i64 c.labels] 26)) (.cells #[.string d.name, .slice A1 d.data.length B1, .slice A2 d.ops.length B2, .slice A3 d.gl.length B3, .int .i64 d.procs, .int .i64 d.labels] 26); simpa [BoxAt] using this)
 cases h1 : (c.name.toList == d.name.toList) with
 | false =>
  have HN : Hid (sameB c d = false) := Lib.hid (by rw [HS.out, h1]; rfl)
  go_enter Try.func23, Try.ntmps23
  go_wp2_with fail
  go_ret
  exact ⟨by rw [HN.out]; rfl, HBB.out⟩
 | true =>
 have HS2 : Hid (sameB c d = (c.procs == d.procs && (c.labels == d.labels && (eqLB eqO c.ops d.ops && (eqLB eqE c.gl d.gl && eqLB eqD c.data d.data))))) := Lib.hid (by rw [HS.out, h1]; rfl)
 cases h2 : (c.procs == d.procs) with
 | false =>
  have HN : Hid (sameB c d = false) := Lib.hid (by rw [HS2.out, h2]; rfl)
  go_enter Try.func23, Try.ntmps23
  go_wp2_with fail
  go_ret
  exact ⟨by rw [HN.out]; rfl, HBB.out⟩
 | true =>
 have HS3 : Hid (sameB c d = (c.labels == d.labels && (eqLB eqO c.ops d.ops && (eqLB eqE c.gl d.gl && eqLB eqD c.data d.data)))) := Lib.hid (by rw [HS2.out, h2]; rfl)
 cases h3 : (c.labels == d.labels) with
 | false =>
  have HN : Hid (sameB c d = false) := Lib.hid (by rw [HS3.out, h3]; rfl)
  go_enter Try.func23, Try.ntmps23
  go_wp2_with fail
  go_ret
  exact ⟨by rw [HN.out]; rfl, HBB.out⟩
 | true =>
 have HS4 : Hid (sameB c d = (eqLB eqO c.ops d.ops && (eqLB eqE c.gl d.gl && eqLB eqD c.data d.data))) := Lib.hid (by rw [HS3.out, h3]; rfl)
 go_enter Try.func23, Try.ntmps23
 go_wp2_with fail
 refine (api_Op_50.calls (c.ops.length + 1) _ _ c.ops _ _ d.ops _ _ (Kd.C_below H.out.h2 HBB.out) H.out.l2 (Kd.C_below H'.out.h2 HBB.out) H'.out.l2 (api_Op_50_f _ _ (by have := HF.out.o; omega) _ (by omega))).mono ?_
 rintro e w1 ⟨rfl, ⟨n1, rfl⟩⟩
 generalize hq : eqLB eqO c.ops d.ops = q1 at *
 clear hq
 cases q1 with
 | false =>
  have HN : Hid (sameB c d = false) := Lib.hid (by rw [HS4.out]; rfl)
  go_wp2_with fail
  go_ret
  exact ⟨by rw [HN.out]; rfl, pw_below_drewN HBB.out _⟩
 | true =>
 have HS5 : Hid (sameB c d = (eqLB eqE c.gl d.gl && eqLB eqD c.data d.data)) := Lib.hid (by rw [HS4.out]; rfl)
 go_wp2_with fail
 refine (api_Entry_51.calls (c.gl.length + 1) _ _ c.gl _ _ d.gl _ _ (Kd.C_drewN (Kd.C_below H.out.h3 HBB.out) _) H.out.l3 (Kd.C_drewN (Kd.C_below H'.out.h3 HBB.out) _) H'.out.l3 (api_Entry_51_f _ _ (by have := HF.out.g; omega) _ (by omega))).mono ?_
 rintro e w1 ⟨rfl, ⟨n2, rfl⟩⟩
 generalize hq : eqLB eqE c.gl d.gl = q2 at *
 clear hq
 cases q2 with
 | false =>
  have HN : Hid (sameB c d = false) := Lib.hid (by rw [HS5.out]; rfl)
  go_wp2_with fail
  go_ret
  exact ⟨by rw [HN.out]; rfl, pw_below_drewN HBB.out _⟩
 | true =>
 have HS6 : Hid (sameB c d = eqLB eqD c.data d.data) := Lib.hid (by rw [HS5.out]; rfl)
 go_wp2_with fail
 have HBC := Lib.hid (pw_below_drewN HBB.out (n1 + n2))
 refine (equalFunc_calls c.data d.data _ _ _ _ _ (Kd.C_below H.out.h1 HBC.out) (Kd.C_below H'.out.h1 HBC.out) HF.out.d (fun x hx => (HF.out.w x hx).2)).mono ?_
 rintro e w8 ⟨rfl, hb⟩
 have HB8 := Lib.hid (below_step HBC.out hb)
 clear hb
 go_wp2_with fail
 go_ret
 exact ⟨by rw [HS6.out]; rfl, HB8.out⟩
end Go.Proofs.Ytkmcanknbdaliaa.Lx
namespace Go.Proofs.Ytkmcanknbdaliaa.PO
open Go Go.RowKit Go.Proofs.YtkmcanknbdaliaaW.PrintWords Go.Proofs.YtkmcanknbdaliaaW.PrintLast Go.Proofs.YtkmcanknbdaliaaW.PrintMore Go.Proofs.Ytkmcanknbdaliaa.Lx
def ocode_Same.f (a0_0 : ByteArray) (l0_1 : List (S47)) (l0_2 : List (S35)) (l0_3 : List (S68)) (a0_4 : Int) (a0_5 : Int) (a1_0 : ByteArray) (l1_1 : List (S47)) (l1_2 : List (S35)) (l1_3 : List (S68)) (a1_4 : Int) (a1_5 : Int) : Option (Bool) :=
 if fineB ⟨a0_0, l0_1, l0_2, l0_3, a0_4, a0_5⟩ = true then some (sameB ⟨a0_0, l0_1, l0_2, l0_3, a0_4, a0_5⟩ ⟨a1_0, l1_1, l1_2, l1_3, a1_4, a1_5⟩) else none
theorem ocode_Same.calls (a0_0 : ByteArray) (A0_1 : Option Addr) (c0_1 : Nat) (l0_1 : List (S47)) (A0_2 : Option Addr) (c0_2 : Nat) (l0_2 : List (S35)) (A0_3 : Option Addr) (c0_3 : Nat) (l0_3 : List (S68)) (a0_4 : Int) (a0_5 : Int) (a1_0 : ByteArray) (A1_1 : Option Addr) (c1_1 : Nat) (l1_1 : List (S47)) (A1_2 : Option Addr) (c1_2 : Nat) (l1_2 : List (S35)) (A1_3 : Option Addr) (c1_3 : Nat) (l1_3 : List (S68)) (a1_4 : Int) (a1_5 : Int) (r : Bool) (w : World) (hr0_1 : Kd.C k47 w A0_1 l0_1.length l0_1) (hc0_1 : l0_1.length ≤ c0_1) (hr0_2 : Kd.C k35 w A0_2 l0_2.length l0_2) (hc0_2 : l0_2.length ≤ c0_2) (hr0_3 : Kd.C k68 w A0_3 l0_3.length l0_3) (hc0_3 : l0_3.length ≤ c0_3) (hr1_1 : Kd.C k47 w A1_1 l1_1.length l1_1) (hc1_1 : l1_1.length ≤ c1_1) (hr1_2 : Kd.C k35 w A1_2 l1_2.length l1_2) (hc1_2 : l1_2.length ≤ c1_2) (hr1_3 : Kd.C k68 w A1_3 l1_3.length l1_3) (hc1_3 : l1_3.length ≤ c1_3) (h : ocode_Same.f a0_0 l0_1 l0_2 l0_3 a0_4 a0_5 a1_0 l1_1 l1_2 l1_3 a1_4 a1_5 = some r) :
  Calls Try.prog 23 #[.agg #[.string a0_0, .slice A0_1 l0_1.length c0_1, .slice A0_2 l0_2.length c0_2, .slice A0_3 l0_3.length c0_3, .int .i64 a0_4, .int .i64 a0_5], .agg #[.string a1_0, .slice A1_1 l1_1.length c1_1, .slice A1_2 l1_2.length c1_2, .slice A1_3 l1_3.length c1_3, .int .i64 a1_4, .int .i64 a1_5]] w fun e w' => e = .returned (.bool r) ∧ Below w.heap.size w w' := by
 unfold ocode_Same.f at h
 by_cases g : fineB ⟨a0_0, l0_1, l0_2, l0_3, a0_4, a0_5⟩ = true
 ·rw [if_pos g] at h
  injection h with h
  subst h
  exact same_calls ⟨a0_0, l0_1, l0_2, l0_3, a0_4, a0_5⟩ ⟨a1_0, l1_1, l1_2, l1_3, a1_4, a1_5⟩ ⟨A0_1, c0_1, A0_2, c0_2, A0_3, c0_3⟩ ⟨A1_1, c1_1, A1_2, c1_2, A1_3, c1_3⟩ w ⟨hr0_1, hc0_1, hr0_2, hc0_2, hr0_3, hc0_3⟩ ⟨hr1_1, hc1_1, hr1_2, hc1_2, hr1_3, hc1_3⟩ ((fine_iff _).1 g)
 ·rw [if_neg g] at h
  exact absurd h (by simp)
end Go.Proofs.Ytkmcanknbdaliaa.PO
