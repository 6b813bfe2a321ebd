/- The contract of ocode.areas: whether areas and entries are as said. -/
import Derived.Test.YtkmcanknbdaliaaQChecksCod
import Derived.Test.YtkmcanknbdaliaaQChecks1
import Derived.Test.YtkmcanknbdaliaaQChecksQuote
import Derived.Test.YtkmcanknbdaliaaQChecksPlaces
import Derived.Test.YtkmcanknbdaliaaQChecksIntSet
import Derived.WalkSmall
import Derived.Outline
namespace Go.Proofs.Ytkmcanknbdaliaa.Lx
open Go Go.Maps Go.RowKit Go.Proofs.YtkmcanknbdaliaaW.PrintWords Go.Proofs.YtkmcanknbdaliaaW.PrintLast Go.Proofs.YtkmcanknbdaliaaW.PrintMore Go.Proofs.Ytkmcanknbdaliaa.PO
def inB (v lo hi : Int) : Bool := decide (lo ≤ v) && decide (v ≤ hi)
def wideB (v : Int) : Bool := inB v (-2147483648) 2147483647
theorem in_f (v lo hi : Int) : ocode_in.f v lo hi = some (inB v lo hi) := by
 unfold ocode_in.f inB
 by_cases h : v ≥ lo
 ·rw [if_pos h, decide_eq_true (show lo ≤ v from h), Bool.true_and]
 ·rw [if_neg h, decide_eq_false (show ¬ lo ≤ v from h), Bool.false_and]
theorem wide_f (v : Int) : ocode_wide.f v = some (wideB v) := by
 unfold ocode_wide.f
 rw [in_f]
 rfl
theorem in_calls (v lo hi : Int) (w : World) : Calls Try.prog 88 #[.int .i64 v, .int .i64 lo, .int .i64 hi] w fun e w' => e = .returned (.bool (inB v lo hi)) ∧ Drawn0 w w' := ocode_in.calls v lo hi _ w (in_f v lo hi)
theorem wide_calls (v : Int) (w : World) : Calls Try.prog 87 #[.int .i64 v] w fun e w' => e = .returned (.bool (wideB v)) ∧ Drawn0 w w' := ocode_wide.calls v _ w (wide_f v)
theorem narrow_calls (v : Int) (w : World) : Calls Try.prog 90 #[.int .i64 v] w fun e w' => e = .returned (.bool (!wideB v)) ∧ Drawn0 w w' := by
 go_enter Try.func90, Try.ntmps90
 go_wp2_with fail
 refine (wide_calls v _).mono ?_
 rintro e w' ⟨rfl, hd⟩
 have HD := Lib.hid hd
 clear hd
 go_wp2_with fail
 go_ret
 exact ⟨rfl, HD.out⟩
theorem rd_get (l : List Int) (j : Nat) (hj : j < l.length) : rd l (j : Nat) = l[j] := by
 simp [rd, List.getD_eq_getElem?_getD, List.getElem?_eq_getElem hj]
theorem rd_mem (l : List Int) (j : Nat) (hj : j < l.length) : rd l (j : Nat) ∈ l := by
 rw [rd_get l j hj]
 exact List.getElem_mem hj
theorem next_wide {l : List Int} {k : Nat} (h : ∀ j, j < k → wideB (rd l (j : Nat)) = true) (hk : wideB (rd l (k : Nat)) = true) : ∀ j, j < k + 1 → wideB (rd l (j : Nat)) = true := by
 intro j hj
 by_cases e : j < k
 ·exact h j e
 ·obtain rfl : j = k := by omega
  exact hk
def anyNarrow (l : List Int) : Bool := l.any fun v => !wideB v
set_option maxRecDepth 100000 in
theorem index_calls (l : List Int) (A : Option Addr) (cc : Nat) (w : World) (h : Kd.C (Kd.int .i64) w A l.length l) (hm : l.length ≤ 1000000) :
  Calls Try.prog 99 #[.slice A l.length cc, .func (.func 90) #[] #[]] w fun e w' => ∃ j : Int, e = .returned (.int .i64 j) ∧ (0 ≤ j ∧ anyNarrow l = true ∨ j = -1 ∧ anyNarrow l = false) ∧ Drawn0 w w' := by
 have H := Lib.hid h
 clear h
 go_enter Try.func99, Try.ntmps99
 go_wp2_with fail
 go_loopw [8] (fun i wr => ∃ k : Nat, k ≤ l.length ∧ i = .int .i64 k ∧ Hid (∀ j, j < k → wideB (rd l (j : Nat)) = true) ∧ ∃ m, wr = w.drewN m) (fun i _ => l.length - (intOf i).toNat)
 case atStart => exact ⟨0, by omega, rfl, Lib.hid (fun j hj => absurd hj (by omega)), 0, rfl⟩
 case round =>
  obtain ⟨k, hk, rfl, HA, m, rfl⟩ := hrel
  by_cases hlt : k < l.length
  ·obtain ⟨ad, had, hx⟩ := Kd.at_int H.out (k : Int) (by omega) (by omega)
   have hy : (w.drewN m).cell? (ad.add k) = some (.int .i64 (rd l k)) := by simpa using hx
   clear hx
   rw [had]
   cases hw : wideB (rd l (k : Nat)) with
   | true =>
    have HW := Lib.hid hw
    clear hw
    go_wp2_with fail
    refine (narrow_calls (rd l (k : Nat)) _).mono ?_
    rintro e w' ⟨rfl, m', rfl⟩
    rw [HW.out, Bool.not_true]
    go_wp2_with fail
    go_roundw
    case rel => exact ⟨k + 1, by omega, by go_num, Lib.hid (next_wide HA.out HW.out), m + m', rfl⟩
    case measure => simp [intOf]; omega
   | false =>
    have HW := Lib.hid hw
    clear hw
    have HN : Hid (anyNarrow l = true) := Lib.hid (List.any_eq_true.2 ⟨_, rd_mem l k hlt, by rw [HW.out]; rfl⟩)
    go_wp2_with fail
    refine (narrow_calls (rd l (k : Nat)) _).mono ?_
    rintro e w' ⟨rfl, m', rfl⟩
    rw [HW.out, Bool.not_false]
    go_wp2_with fail
    go_ret
    exact ⟨(k : Nat), rfl, .inl ⟨by omega, HN.out⟩, m + m', rfl⟩
  ·go_wp2_with fail
   go_ret
   have HN : anyNarrow l = false := by
    refine List.any_eq_false.2 fun v hv => ?_
    obtain ⟨j, hj, rfl⟩ := List.mem_iff_getElem.1 hv
    rw [← rd_get l j hj, HA.out j (by omega)]
    decide
   exact ⟨-1, rfl, .inr ⟨rfl, HN⟩, m, rfl⟩
set_option maxRecDepth 100000 in
theorem contains_calls (l : List Int) (A : Option Addr) (cc : Nat) (w : World) (h : Kd.C (Kd.int .i64) w A l.length l) (hm : l.length ≤ 1000000) :
  Calls Try.prog 89 #[.slice A l.length cc, .func (.func 90) #[] #[]] w fun e w' => e = .returned (.bool (anyNarrow l)) ∧ Drawn0 w w' := by
 have H := Lib.hid h
 clear h
 go_enter Try.func89, Try.ntmps89
 go_wp2_with fail
 refine (index_calls l A cc _ H.out hm).mono ?_
 rintro e w' ⟨j, rfl, hj, m, rfl⟩
 rcases hj with ⟨hj, hn⟩ | ⟨rfl, hn⟩
 ·have HN := Lib.hid hn
  clear hn
  go_wp2_with fail
  go_ret
  exact ⟨by rw [HN.out]; rfl, m, rfl⟩
 ·have HN := Lib.hid hn
  clear hn
  go_wp2_with fail
  go_ret
  exact ⟨by rw [HN.out]; rfl, m, rfl⟩
def areaB (d : S47) : Bool := if d.f1 then decide ((quoteR d.f0).2 = 0) && decide (d.f2 = []) else d.f0.toList.isEmpty && !decide (d.f2 = []) && !anyNarrow d.f2
def entriesL : List S68 → List Int → Int → Bool
 | [], _, _ => true
 | e :: es, seen, p => if (inB e.f0 1 199 && !seen.any (fun x => x == e.f0) && inB e.f1 1 p) = true then entriesL es (seen ++ [e.f0]) p else false
def areasB (c : Cod) : Bool := c.data.all areaB && entriesL c.gl [] c.procs
theorem next_area {l : List S47} {k : Nat} (h : ∀ j, j < k → areaB (rd_T47 l (j : Nat)) = true) (hk : areaB (rd_T47 l (k : Nat)) = true) : ∀ j, j < k + 1 → areaB (rd_T47 l (j : Nat)) = true := by
 intro j hj
 by_cases e : j < k
 ·exact h j e
 ·obtain rfl : j = k := by omega
  exact hk
theorem data_get (l : List S47) (j : Nat) (hj : j < l.length) : rd_T47 l (j : Nat) = l[j] := by
 simp [rd_T47, List.getD_eq_getElem?_getD, List.getElem?_eq_getElem hj]
theorem areas_bad (c : Cod) (k : Nat) (hk : k < c.data.length) (h : areaB (rd_T47 c.data (k : Nat)) = false) : areasB c = false := by
 unfold areasB
 rw [show c.data.all areaB = false from List.all_eq_false.2 ⟨_, List.getElem_mem hk, by rw [← data_get _ _ hk, h]; decide⟩, Bool.false_and]
theorem areas_all {c : Cod} (h : ∀ j, j < c.data.length → areaB (rd_T47 c.data (j : Nat)) = true) : c.data.all areaB = true := by
 refine List.all_eq_true.2 fun d hd => ?_
 obtain ⟨j, hj, rfl⟩ := List.mem_iff_getElem.1 hd
 rw [← data_get _ _ hj]
 exact h j hj
def seenL (c : Cod) (k : Nat) : List Int := (c.gl.take k).map (·.f0)
theorem drop_gl (c : Cod) (k : Nat) (hk : k < c.gl.length) : c.gl.drop k = rd_T68 c.gl (k : Nat) :: c.gl.drop (k + 1) := by
 rw [List.drop_eq_getElem_cons hk]
 congr 1
 simp [rd_T68, List.getD_eq_getElem?_getD, List.getElem?_eq_getElem hk]
theorem seen_next (c : Cod) (k : Nat) (hk : k < c.gl.length) : seenL c (k + 1) = seenL c k ++ [(rd_T68 c.gl (k : Nat)).f0] := by
 unfold seenL
 rw [List.take_succ_eq_append_getElem hk, List.map_append]
 simp [rd_T68, List.getD_eq_getElem?_getD, List.getElem?_eq_getElem hk]
theorem key_int (x : Int) (h : inB x 1 199 = true) : keyOf Try.prog 3 (.int .i64 x) = some (.int .i64 x) := by
 rw [keyOf_int Try.underlying3]
 unfold inB at h
 have h1 := of_decide_eq_true (Bool.and_eq_true_iff.1 h).1
 have h2 := of_decide_eq_true (Bool.and_eq_true_iff.1 h).2
 have hw : (Lit.int IntKind.i64 x).wf = true := by have e1 : IntKind.i64.min = -9223372036854775808 := rfl; have e2 : IntKind.i64.max = 9223372036854775807 := rfl; simp [Lit.wf]; omega
 simp [mapKey, Try.underlying3, hw]
theorem keyed_int : Keyed Try.prog 3 := int_keyed Try.underlying3
theorem areas_no2 (c : Cod) {x : Bool} (h : entriesL c.gl [] c.procs = x) (hx : x = false) : areasB c = false := by
 unfold areasB
 rw [h, hx, Bool.and_false]
theorem areas_yes (c : Cod) (h1 : c.data.all areaB = true) (h : entriesL c.gl [] c.procs = entriesL (c.gl.drop c.gl.length) (seenL c c.gl.length) c.procs) : areasB c = true := by
 unfold areasB
 rw [h1, h, List.drop_length, entriesL, Bool.true_and]
theorem plainElem_boolMk {P : Program} {e : TypeId} (he : P.underlying e = some .bool) (c : Bool) : plainElem (H := Unit) P e (.bool c) = some (.lit (.bool c), []) := by
 unfold plainElem
 rw [he]
structure AreasOk (c : Cod) : Prop where
 d : c.data.length ≤ 1000000
 g : c.gl.length ≤ 1000000
 w : ∀ k, k < c.data.length → (rd_T47 c.data (k : Nat)).f0.size ≤ 1000000000 ∧ (rd_T47 c.data (k : Nat)).f2.length ≤ 1000000
set_option maxRecDepth 100000 in
theorem areas_calls (c : Cod) (a : Adr) (w : World) (h : CodAt w c a) (ok : AreasOk c) : Calls Try.prog 66 #[.agg (codCells c a)] w fun e w' => e = .returned (.bool (areasB c)) ∧ Below w.heap.size w w' := by
 have H := Lib.hid h
 have hd := ok.d
 have OK := Lib.hid ok
 clear h ok
 unfold codCells
 go_enter Try.func66, Try.ntmps66
 go_wp2_with fail
 go_loopw [2, 13] (fun v2 i wr => ∃ k : Nat, k ≤ c.data.length ∧ v2 = .bool false ∧ i = .int .i64 k ∧ Hid (∀ j, j < k → areaB (rd_T47 c.data (j : Nat)) = true) ∧ Hid (BoxAt wr w.heap.size (codCells c a) 26) ∧ Hid (Below w.heap.size w wr)) (fun _ i _ => c.data.length - (intOf i).toNat)
 case atStart => exact ⟨0, by omega, rfl, rfl, Lib.hid (fun j hj => absurd hj (by omega)), Lib.hid (heap_alloc_new w _), Lib.hid (((Below.refl _ _).alloc (Nat.le_refl _) _))⟩
 case round =>
  obtain ⟨k, hk, rfl, rfl, HA, HX, HB⟩ := hrel
  by_cases hlt : k < c.data.length
  ·obtain ⟨ad, A2, c2, had, hx0, hx1, hx2, hl2, hi2⟩ := at_T47 (H.out.below HB.out).h1 (k : Int) (by omega) (by omega)
   have hs := (OK.out.w k hlt).1
   have hn := (OK.out.w k hlt).2
   have HE : Hid (∀ b, areaB (rd_T47 c.data (k : Nat)) = b → b = true → ∀ j, j < k + 1 → areaB (rd_T47 c.data (j : Nat)) = true) := Lib.hid (fun b hb hb2 => by subst hb2; exact next_area HA.out hb)
   have HF : Hid (areaB (rd_T47 c.data (k : Nat)) = false → areasB c = false) := Lib.hid (areas_bad c k hlt)
   generalize rd_T47 c.data (k : Nat) = d at *
   have HI := Lib.hid hi2
   clear hi2
   simp only [Int.toNat_natCast] at hx0 hx1 hx2
   rw [had]
   cases ht : d.f1 with
   | true =>
    rw [ht] at hx1
    have HT := Lib.hid ht
    clear ht
    go_wp2_with fail
    refine (Quote_calls d.f0 hs _).mono ?_
    rintro e w2 ⟨rfl, hb⟩
    have HB2 := Lib.hid (below_step (HB.out.alloc HB.out.size _) hb)
    have hy2 : w2.cell? ⟨wr.heap.size, 2, none⟩ = some (.slice A2 d.f2.length c2) := (blk_cell ((hb.block wr.heap.size (by simp)).trans (heap_alloc_new wr _)) 2).trans rfl
    have HX2 : Hid (BoxAt w2 w.heap.size (codCells c a) 26) := Lib.hid ((hb.block w.heap.size (by have := HB.out.size; simp; omega)).trans (blk_alloc HX.out _))
    clear hb
    by_cases hq : (quoteR d.f0).2 = 0
    ·have hqb : ((quoteR d.f0).2 != 0) = false := bne_eq_false_iff_eq.2 hq
     by_cases hn : 0 < d.f2.length
     ·have HN := Lib.hid (HF.out (by unfold areaB; rw [if_pos HT.out, decide_eq_false (p := d.f2 = []) (fun e => absurd hn (by rw [e]; decide)), Bool.and_false]))
      clear hq
      go_wp2_with fail
      go_ret
      exact ⟨by rw [HN.out]; rfl, HB2.out⟩
     ·have HA2 := Lib.hid (HE.out true (by unfold areaB; rw [if_pos HT.out, decide_eq_true hq, List.length_eq_zero_iff.1 (by omega : d.f2.length = 0)]; rfl) rfl)
      clear hq
      go_wp2_with fail
      go_roundw
      case rel => exact ⟨k + 1, by omega, rfl, by go_num, HA2, HX2, HB2⟩
      case measure => simp [intOf]; omega
    ·have hqb : ((quoteR d.f0).2 != 0) = true := bne_iff_ne.2 hq
     have HN := Lib.hid (HF.out (by unfold areaB; rw [if_pos HT.out, decide_eq_false hq]; rfl))
     clear hq
     go_wp2_with fail
     go_ret
     exact ⟨by rw [HN.out]; rfl, HB2.out⟩
   | false =>
    rw [ht] at hx1
    have HT := Lib.hid ht
    clear ht
    have hy0 : (wr.alloc (.cells #[.string d.f0, .bool false, .slice A2 d.f2.length c2] 47)).cell? ⟨wr.heap.size, 0, none⟩ = some (.string d.f0) := (blk_cell (heap_alloc_new wr _) 0).trans rfl
    have hy2 : (wr.alloc (.cells #[.string d.f0, .bool false, .slice A2 d.f2.length c2] 47)).cell? ⟨wr.heap.size, 2, none⟩ = some (.slice A2 d.f2.length c2) := (blk_cell (heap_alloc_new wr _) 2).trans rfl
    cases hz : d.f0.toList.isEmpty with
    | true =>
     by_cases hn : d.f2.length = 0
     ·have HN := Lib.hid (HF.out (by unfold areaB; rw [if_neg (by rw [HT.out]; decide), List.length_eq_zero_iff.1 hn]; simp))
      go_wp2_with fail
      go_ret
      exact ⟨by rw [HN.out]; rfl, HB.out.alloc HB.out.size _⟩
     ·have hnb : ((d.f2.length : Int) == 0) = false := by simp; exact fun e => hn (by rw [e]; rfl)
      have HNE : Hid (d.f2 ≠ []) := Lib.hid (fun e => hn (by rw [e]; rfl))
      have HZ := Lib.hid hz
      go_wp2_with fail
      refine (contains_calls d.f2 A2 c2 _ (Kd.C_below HI.out ((Below.refl _ _).alloc (Nat.le_refl _) _)) (by assumption)).mono ?_
      rintro e w2 ⟨rfl, m, rfl⟩
      have HB2 : Hid (Below w.heap.size w ((wr.alloc (.cells #[.string d.f0, .bool false, .slice A2 d.f2.length c2] 47)).drewN m)) := Lib.hid (below_drewN (HB.out.alloc HB.out.size _) m)
      have HX2 : Hid (BoxAt ((wr.alloc (.cells #[.string d.f0, .bool false, .slice A2 d.f2.length c2] 47)).drewN m) w.heap.size (codCells c a) 26) := Lib.hid (blk_alloc HX.out _)
      cases hw : anyNarrow d.f2 with
      | true =>
       have HN := Lib.hid (HF.out (by unfold areaB; rw [if_neg (by rw [HT.out]; decide), hw, Bool.not_true, Bool.and_false]))
       clear hw
       go_wp2_with fail
       go_ret
       exact ⟨by rw [HN.out]; rfl, HB2.out⟩
      | false =>
       have HA2 := Lib.hid (HE.out true (by unfold areaB; rw [if_neg (by rw [HT.out]; decide), hw, HZ.out, decide_eq_false HNE.out]; rfl) rfl)
       clear hw
       go_wp2_with fail
       go_roundw
       case rel => exact ⟨k + 1, by omega, rfl, by go_num, HA2, HX2, HB2⟩
       case measure => simp [intOf]; omega
    | false =>
     have HN := Lib.hid (HF.out (by unfold areaB; rw [if_neg (by rw [HT.out]; decide), hz]; rfl))
     go_wp2_with fail
     go_ret
     exact ⟨by rw [HN.out]; rfl, HB.out.alloc HB.out.size _⟩
  ·obtain rfl : k = c.data.length := by omega
   have HALL : Hid (c.data.all areaB = true) := Lib.hid (areas_all HA.out)
   clear HA
   have hmm := @run_makeMap Try.prog
   have hb3 : (wr.alloc (.map #[] 0)).cell? ⟨w.heap.size, 3, none⟩ = some (.slice a.a3 c.gl.length a.c3) := (blk_cell (blk_alloc HX.out _) 3).trans rfl
   go_wp2_with fail
   clear hmm
   have HM := Lib.hid (World.ownsMap_made wr Try.prog 3 (plainElem (H := Unit) Try.prog 4))
   have HW0 := HB.out.size
   have HLT : Hid (wr.heap.size < (wr.alloc (.map #[] 0)).heap.size) := Lib.hid (by simp)
   have HWB : Hid (w.heap.size < wr.heap.size) := Lib.hid (Array.getElem?_eq_some_iff.1 HX.out).1
   clear HW0
   generalize wr.heap.size = B at *
   go_loopw [2, 52] (fun v2 i ws => ∃ k : Nat, k ≤ c.gl.length ∧ v2 = .bool false ∧ i = .int .i64 k ∧ Hid (entriesL c.gl [] c.procs = entriesL (c.gl.drop k) (seenL c k) c.procs) ∧ Hid (∃ n, n ≤ k ∧ ws.ownsMap Try.prog 3 (plainElem (H := Unit) Try.prog 4) B n (setI (seenL c k))) ∧ Hid (BoxAt ws w.heap.size (codCells c a) 26) ∧ Hid (Below w.heap.size w ws) ∧ Hid (B < ws.heap.size)) (fun _ i _ => c.gl.length - (intOf i).toNat)
   case atStart => exact ⟨0, by omega, rfl, rfl, Lib.hid rfl, Lib.hid ⟨0, Nat.le_refl _, HM.out⟩, Lib.hid (blk_alloc HX.out _), Lib.hid (HB.out.alloc HB.out.size _), HLT⟩
   case round =>
    clear HX HB HM
    obtain ⟨k, hk, rfl, rfl, HA, HM, HX, HB, HS⟩ := hrel
    have hg := OK.out.g
    have HG := Lib.hid hg
    by_cases hlt : k < c.gl.length
    ·obtain ⟨ad, had, hx0, hx1⟩ := at_T68 (H.out.below HB.out).h3 (k : Int) (by omega) (by omega)
     have HD := Lib.hid (drop_gl c k hlt)
     have HSN := Lib.hid (seen_next c k hlt)
     generalize rd_T68 c.gl (k : Nat) = d at *
     simp only [Int.toNat_natCast] at hx0 hx1
     rw [had]
     have hy0 : (wr.alloc (.cells #[.int .i64 d.f0, .int .i64 d.f1] 68)).cell? ⟨wr.heap.size, 0, none⟩ = some (.int .i64 d.f0) := (blk_cell (heap_alloc_new wr _) 0).trans rfl
     have hy1 : (wr.alloc (.cells #[.int .i64 d.f0, .int .i64 d.f1] 68)).cell? ⟨wr.heap.size, 1, none⟩ = some (.int .i64 d.f1) := (blk_cell (heap_alloc_new wr _) 1).trans rfl
     have hp : (wr.alloc (.cells #[.int .i64 d.f0, .int .i64 d.f1] 68)).cell? ⟨w.heap.size, 4, none⟩ = some (.int .i64 c.procs) := (blk_cell (blk_alloc HX.out _) 4).trans rfl
     have HB2 := Lib.hid (HB.out.alloc HB.out.size (.cells #[.int .i64 d.f0, .int .i64 d.f1] 68))
     have HX2 := Lib.hid (blk_alloc HX.out (.cells #[.int .i64 d.f0, .int .i64 d.f1] 68))
     obtain ⟨n, hn, hm⟩ := HM.out
     have HM2 := Lib.hid (hm.alloc (.cells #[.int .i64 d.f0, .int .i64 d.f1] 68))
     have HNK := Lib.hid hn
     have HKG : Hid (k ≤ 1000000) := Lib.hid (by omega)
     clear hm HM hn
     go_wp2_with fail
     refine (in_calls d.f0 1 199 _).mono ?_
     rintro e w2 ⟨rfl, m, rfl⟩
     cases h1 : inB d.f0 1 199 with
     | false =>
      have HN := Lib.hid (areas_no2 c HA.out (by rw [HD.out, entriesL, if_neg (by rw [h1]; simp)]))
      clear h1
      go_wp2_with fail
      go_ret
      exact ⟨by rw [HN.out]; rfl, below_drewN HB2.out m⟩
     | true =>
      have hlook := look_boolI (w := (wr.alloc (.cells #[.int .i64 d.f0, .int .i64 d.f1] 68)).drewN m) HM2.out keyed_int Try.underlying104 Try.underlying4 (by rfl) (key_int d.f0 h1)
      have H1 := Lib.hid h1
      clear h1
      cases h2 : (seenL c k).any (fun y => y == d.f0) with
      | true =>
       have HN := Lib.hid (areas_no2 c HA.out (by rw [HD.out, entriesL, if_neg (by rw [H1.out, h2]; simp)]))
       rw [h2] at hlook
       clear h2
       go_wp2_with fail
       go_ret
       exact ⟨by rw [HN.out]; rfl, below_drewN HB2.out m⟩
      | false =>
       rw [h2] at hlook
       have H2 := Lib.hid h2
       clear h2
       go_wp2_with fail
       refine (in_calls d.f1 1 c.procs _).mono ?_
       rintro e w2 ⟨rfl, m', rfl⟩
       clear hlook
       cases h3 : inB d.f1 1 c.procs with
       | false =>
        have HN := Lib.hid (areas_no2 c HA.out (by rw [HD.out, entriesL, if_neg (by rw [h3]; simp)]))
        clear h3
        go_wp2_with fail
        go_ret
        exact ⟨by rw [HN.out]; rfl, below_drewN HB2.out _⟩
       | true =>
        have HA2 := Lib.hid (HA.out.trans (by rw [HD.out, entriesL, if_pos (by rw [H1.out, H2.out, h3]; rfl), ← HSN.out]))
        clear h3
        have HM3 : Hid (((wr.alloc (.cells #[.int .i64 d.f0, .int .i64 d.f1] 68)).drewN (m + m')).ownsMap Try.prog 3 (plainElem (H := Unit) Try.prog 4) B n (setI (seenL c k))) := Lib.hid HM2.out
        have HB3 := Lib.hid (below_drewN HB2.out (m + m'))
        have HX3 : Hid (BoxAt ((wr.alloc (.cells #[.int .i64 d.f0, .int .i64 d.f1] 68)).drewN (m + m')) w.heap.size (codCells c a) 26) := Lib.hid HX2.out
        have HK := Lib.hid (key_int d.f0 H1.out)
        have HNE : Hid (w.heap.size ≠ B ∧ B < ((wr.alloc (.cells #[.int .i64 d.f0, .int .i64 d.f1] 68)).drewN (m + m')).heap.size) := Lib.hid ⟨by have := HWB.out; omega, by have := HS.out; simp; omega⟩
        clear HM2 HB2 HX2
        go_wp2_with (at_mapUpdate; refine wpList_mapUpdate_own _ rfl _ _ _ 104 rfl 3 4 keyed_int Try.underlying104 (plainElem (H := Unit) Try.prog 4) B n _ rfl HM3.out (by have := HNK.out; have := HKG.out; unfold maxLen; omega) _ _ _ rfl rfl HK.out _ [] (plainElem_boolMk Try.underlying4 true) ?_; intro w1 hown1 hgrow1)
        have HO := Lib.hid hown1
        have HX4 : Hid (BoxAt w1 w.heap.size (codCells c a) 26) := Lib.hid ((hgrow1.block w.heap.size (Array.getElem?_eq_some_iff.1 HX3.out).1 (fun e => HNE.out.1 (Option.some.inj e))).trans HX3.out)
        have HB4 := Lib.hid (HB3.out.grown hgrow1 HB3.out.size (fun k hk => by cases hk; exact Nat.le_of_lt HWB.out))
        have HS4 : Hid (B < w1.heap.size) := Lib.hid (Nat.lt_of_lt_of_le HNE.out.2 hgrow1.size)
        clear hown1 hgrow1
        go_wp2_with fail
        go_roundw
        case rel => exact ⟨k + 1, by omega, rfl, by go_num, HA2, Lib.hid ⟨n + 1, Nat.succ_le_succ HNK.out, by rw [HSN.out, setI_snoc]; exact HO.out⟩, HX4, HB4, HS4⟩
        case measure => simp [intOf]; omega
    ·obtain rfl : k = c.gl.length := by omega
     have HY := Lib.hid (areas_yes c HALL.out HA.out)
     go_wp2_with fail
     go_ret
     exact ⟨by rw [HY.out]; rfl, HB.out⟩
end Go.Proofs.Ytkmcanknbdaliaa.Lx
