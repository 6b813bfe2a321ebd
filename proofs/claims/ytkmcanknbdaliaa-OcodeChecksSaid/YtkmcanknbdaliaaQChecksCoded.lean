/- The contract of ocode.coded: whether code is as said, but for depths. -/
import Derived.Test.YtkmcanknbdaliaaQChecksOrder
import Derived.Test.YtkmcanknbdaliaaQChecksPlaces
import Derived.Test.YtkmcanknbdaliaaQChecksAreas
import Derived.Test.YtkmcanknbdaliaaQChecksKinds
import Derived.StillTailTactics
import Derived.RegionTactic
import Derived.ChangeAlike
import Derived.Deep.DeepCutAuto
import Derived.Deep.QuietTactic
import Derived.BigQuiet
import Derived.WalkSmall
import Derived.Outline
namespace Go.Proofs.Ytkmcanknbdaliaa.Lx
open Go Go.RowKit Go.Proofs.YtkmcanknbdaliaaW.PrintWords Go.Proofs.YtkmcanknbdaliaaW.PrintLast Go.Proofs.YtkmcanknbdaliaaW.PrintMore Go.Proofs.Ytkmcanknbdaliaa.PO
def kindAt (n : Int) : SKind := kindList.getD n.toNat ⟨⟨#[]⟩, 0, 0, 0⟩
def opOk (c : Cod) (o : Op) : Bool := decide (1 ≤ o.f0) && decide (o.f0 < 31) && numbersB o c (kindAt o.f0)
def namesB (at_ of_ : List Int) : List Op → Int → Bool
 | [], _ => true
 | o :: l, p =>
  if namedI o > 0 ∧ (rd of_ (namedI o) ≠ (if o.f0 = 24 then o.f1 else p) ∨ rd at_ (namedI o) = 0) then false else namesB at_ of_ l (if o.f0 = 24 then o.f1 else p)
def codedB (c : Cod) : Bool :=
 decide ((quoteR c.name).2 = 0) && decide (0 ≤ c.procs) && decide (0 ≤ c.labels) && c.ops.all (opOk c) && (placR c).2.2 && orderB c.ops && areasB c && namesB (placR c).1 (placR c).2.1 c.ops 0
theorem wpList_store_table {P : Program} {ops : Array Oper} {rest : List Oper} {o : Oper} {a : Act} {w : World} {Q : Exit → Act → World → Prop} (hgd : o.guard = none) (ty : TypeId) (x y : Operand) (ho : o.op = .store ty x y)
  (W0 : World) (n : Nat) (hn : n = W0.heap.size) (cells old : Array Value) (t : TypeId) (hw : w = W0.alloc (.cells old t)) (hx : a.eval x = .pointer (some ⟨n, 0, none⟩)) (hy : a.eval y = .agg cells)
  (hi : (P.info? ty).map (·.size) = some cells.size) (hold : old.size = cells.size) (h1 : cells.all (·.oneCell') = true)
  (h : wpList P ops Q rest (a.put o.dst undef) (W0.alloc (.cells cells t))) : wpList P ops Q (o :: rest) a w := by
 subst hn
 subst hw
 refine wpList_store_row hgd ty x y ho _ cells hx hy t old (heap_alloc_last _ _) hi hold h1 ?_
 rw [World.setRow_alloc_new]
 exact h
structure CodedOk (c : Cod) : Prop where
 n : c.name.size ≤ 1000000000
 o : c.ops.length ≤ 1000000
 l : c.labels ≤ 1000000
 a : AreasOk c
theorem flat4 : ∀ (l : List SKind) (n : Nat), n < l.length →
  let r := l.flatMap fun x => [Value.string x.f0, .int .i64 x.f1, .int .i64 x.f2, .int .i64 x.f3]
  r[n * 4]? = some (.string (l.getD n ⟨⟨#[]⟩, 0, 0, 0⟩).f0) ∧ r[n * 4 + 1]? = some (.int .i64 (l.getD n ⟨⟨#[]⟩, 0, 0, 0⟩).f1) ∧ r[n * 4 + 2]? = some (.int .i64 (l.getD n ⟨⟨#[]⟩, 0, 0, 0⟩).f2) ∧ r[n * 4 + 3]? = some (.int .i64 (l.getD n ⟨⟨#[]⟩, 0, 0, 0⟩).f3)
 | [], n, h => absurd h (by simp)
 | x :: l, 0, _ => by simp
 | x :: l, n + 1, h => by
  have ih := flat4 l n (by simpa using h)
  simp only [List.flatMap_cons, List.cons_append, List.nil_append, List.getD_cons_succ, show (n + 1) * 4 = n * 4 + 4 by omega] at ih ⊢
  exact ih
theorem kindCell (n : Nat) (hn : n < 31) (W : World) (B : Nat) (hB : BoxAt W B kindCells 54) :
  W.cell? ⟨B, n * 4, none⟩ = some (.string (kindAt n).f0) ∧ W.cell? ⟨B, n * 4 + 1, none⟩ = some (.int .i64 (kindAt n).f1) ∧ W.cell? ⟨B, n * 4 + 2, none⟩ = some (.int .i64 (kindAt n).f2) ∧ W.cell? ⟨B, n * 4 + 3, none⟩ = some (.int .i64 (kindAt n).f3) := by
 obtain ⟨h0, h1, h2, h3⟩ := flat4 kindList n hn
 unfold kindAt
 rw [Int.toNat_natCast]
 exact ⟨(blk_cell hB _).trans ((List.getElem?_toArray ..).trans h0), (blk_cell hB _).trans ((List.getElem?_toArray ..).trans h1), (blk_cell hB _).trans ((List.getElem?_toArray ..).trans h2), (blk_cell hB _).trans ((List.getElem?_toArray ..).trans h3)⟩
theorem opOk_at (c : Cod) (o : Op) (N : Nat) (h : o.f0 = N) (h1 : 1 ≤ N) (h2 : (N : Int) < 31) : opOk c o = numbersB ⟨N, o.f1, o.f2⟩ c (kindAt N) := by
 obtain ⟨x, y, z⟩ := o
 change x = N at h
 subst h
 unfold opOk
 rw [decide_eq_true (show 1 ≤ (N : Int) by omega), decide_eq_true h2]
 rfl
theorem op_get (l : List Op) (j : Nat) (hj : j < l.length) : opAt l j = l[j] := by
 simp [opAt, rd_T35, List.getD_eq_getElem?_getD, List.getElem?_eq_getElem hj]
theorem ops_next {c : Cod} {k : Nat} (h : ∀ j, j < k → opOk c (opAt c.ops j) = true) (hk : opOk c (opAt c.ops k) = true) : ∀ j, j < k + 1 → opOk c (opAt c.ops j) = true := by
 intro j hj
 by_cases e : j < k
 ·exact h j e
 ·obtain rfl : j = k := by omega
  exact hk
theorem ops_bad (c : Cod) (k : Nat) (hk : k < c.ops.length) (h : opOk c (opAt c.ops k) = false) : c.ops.all (opOk c) = false :=
 List.all_eq_false.2 ⟨_, List.getElem_mem hk, by rw [← op_get _ _ hk, h]; decide⟩
theorem ops_all {c : Cod} (h : ∀ j, j < c.ops.length → opOk c (opAt c.ops j) = true) : c.ops.all (opOk c) = true := by
 refine List.all_eq_true.2 fun d hd => ?_
 obtain ⟨j, hj, rfl⟩ := List.mem_iff_getElem.1 hd
 rw [← op_get _ _ hj]
 exact h j hj
theorem and2 {a b : Bool} (h : (a && b) = true) : a = true ∧ b = true := Bool.and_eq_true_iff.1 h
theorem opOk_num {c : Cod} {o : Op} (h : opOk c o = true) : numbersB o c (kindAt o.f0) = true := (and2 h).2
theorem opOk_lab {c : Cod} {o : Op} (h : opOk c o = true) (hk : (kindAt o.f0).f1 = 6) : 1 ≤ o.f1 ∧ o.f1 ≤ c.labels := by
 have h1 := (and2 (opOk_num h)).1
 unfold numOk at h1
 rw [hk] at h1
 have h2 := and2 (show inB o.f1 1 c.labels = true from h1)
 exact ⟨of_decide_eq_true h2.1, of_decide_eq_true h2.2⟩
theorem labels_ok {c : Cod} {L : Nat} (h : c.ops.all (opOk c) = true) (hL : c.labels = L) : ∀ o ∈ c.ops, o.f0 = 19 → 0 ≤ o.f1 ∧ o.f1 ≤ L := by
 intro o ho h19
 have := opOk_lab (List.all_eq_true.1 h o ho) (by rw [h19]; rfl)
 omega
theorem switch_ok {c : Cod} (h : c.ops.all (opOk c) = true) : ∀ i, i < c.ops.length → (opAt c.ops i).f0 = 29 → 0 ≤ (opAt c.ops i).f2 ∧ (opAt c.ops i).f2 ≤ 1000 := by
 intro i hi h29
 have h0 := List.all_eq_true.1 h _ (List.getElem_mem hi)
 rw [← op_get _ _ hi] at h0
 have h1 := (and2 (opOk_num h0)).2
 rw [if_neg (by rw [h29]; decide), if_pos h29] at h1
 have h2 := and2 (show inB (opAt c.ops i).f2 0 1000 = true from h1)
 exact ⟨of_decide_eq_true h2.1, of_decide_eq_true h2.2⟩
theorem drop_opAt (l : List Op) (k : Nat) (hk : k < l.length) : l.drop k = opAt l k :: l.drop (k + 1) := by
 rw [List.drop_eq_getElem_cons hk, op_get _ _ hk]
theorem named_ok {c : Cod} {o : Op} (h0 : 0 ≤ c.labels) (h : opOk c o = true) : namedI o ≤ c.labels := by
 unfold namedI
 by_cases h1 : o.f0 = 20 ∨ o.f0 = 21 ∨ o.f0 = 22 ∨ o.f0 = 27 ∨ o.f0 = 29
 ·rw [if_pos h1]
  refine (opOk_lab h ?_).2
  rcases h1 with h1 | h1 | h1 | h1 | h1 <;> rw [h1] <;> rfl
 ·rw [if_neg h1]
  by_cases h2 : o.f0 = 30
  ·rw [if_pos h2]
   have h3 := (and2 (opOk_num h)).2
   rw [if_neg (by rw [h2]; decide), if_neg (by rw [h2]; decide), if_pos h2] at h3
   exact of_decide_eq_true (and2 (show inB o.f2 1 c.labels = true from h3)).2
  ·rw [if_neg h2]
   exact h0
theorem placL_len : ∀ (l : List Op) (i : Nat) (p q : Int) (xs ys xs' ys' : List Int) (p' q' : Int), placL l i p q xs ys = some (xs', ys', p', q') → xs'.length = xs.length ∧ ys'.length = ys.length
 | [], i, p, q, xs, ys, xs', ys', p', q', h => by
  simp only [placL, Option.some.injEq, Prod.mk.injEq] at h
  exact ⟨by rw [h.1], by rw [h.2.1]⟩
 | o :: l, i, p, q, xs, ys, xs', ys', p', q', h => by
  rw [placL] at h
  by_cases h1 : o.f0 = 24
  ·rw [if_pos h1] at h
   by_cases h2 : o.f1 = p + 1
   ·rw [if_pos h2] at h
    exact placL_len l _ _ _ _ _ _ _ _ _ h
   ·rw [if_neg h2] at h
    exact absurd h (by simp)
  ·rw [if_neg h1] at h
   by_cases h2 : o.f0 = 19
   ·rw [if_pos h2] at h
    by_cases h3 : rd ys o.f1 ≠ 0 ∨ p = 0
    ·rw [if_pos h3] at h
     exact absurd h (by simp)
    ·rw [if_neg h3] at h
     have := placL_len l _ _ _ _ _ _ _ _ _ h
     simpa using this
   ·rw [if_neg h2] at h
    exact placL_len l _ _ _ _ _ _ _ _ _ h
theorem placR_len {c : Cod} {L : Nat} (h : (placR c).2.2 = true) (hL : c.labels = L) : (placR c).1.length = L + 1 ∧ (placR c).2.1.length = L + 1 := by
 cases hr : placL c.ops 0 0 0 (zeros L) (zeros L) with
 | none =>
  rw [placR_of c L hL _ hr] at h
  exact absurd h (by simp [placFin])
 | some r =>
  obtain ⟨xs, ys, p, q⟩ := r
  rw [placR_of c L hL _ hr]
  have := placL_len _ _ _ _ _ _ _ _ _ _ hr
  simpa [zeros, placFin] using this
set_option maxRecDepth 100000 in
set_option maxHeartbeats 8000000 in
theorem coded_calls (c : Cod) (a : Adr) (w : World) (h : CodAt w c a) (ok : CodedOk c) : Calls Try.prog 40 #[.agg (codCells c a)] w fun e w' => e = .returned (.bool (codedB c)) ∧ Below w.heap.size w w' := by
 obtain ⟨a1, b1, a2, b2, a3, b3⟩ := a
 have H := Lib.hid h
 have OK := Lib.hid ok
 clear h ok
 unfold codCells
 go_enter Try.func40, Try.ntmps40
 go_wp2_with fail
 refine (Quote_calls c.name OK.out.n _).mono ?_
 rintro e w2 ⟨rfl, hb⟩
 have HB := Lib.hid (below_step ((Below.refl w.heap.size w).alloc (Nat.le_refl _) _) hb)
 have HX : Hid (BoxAt w2 w.heap.size (codCells c ⟨a1, b1, a2, b2, a3, b3⟩) 26) := Lib.hid ((hb.block w.heap.size (by simp)).trans (heap_alloc_new w _))
 have hb4 : w2.cell? ⟨w.heap.size, 4, none⟩ = some (.int .i64 c.procs) := (blk_cell HX.out 4).trans rfl
 have hb5 : w2.cell? ⟨w.heap.size, 5, none⟩ = some (.int .i64 c.labels) := (blk_cell HX.out 5).trans rfl
 have hb2 : ∀ o o', ((w2.alloc o).alloc o').cell? ⟨w.heap.size, 2, none⟩ = some (.slice a2 c.ops.length b2) := fun o o' => (blk_cell (blk_alloc (blk_alloc HX.out o) o') 2).trans rfl
 clear hb
 by_cases hq : (quoteR c.name).2 = 0
 ·have hqb : ((quoteR c.name).2 != 0) = false := bne_eq_false_iff_eq.2 hq
  by_cases hp : c.procs < 0
  ·have HN : Hid (codedB c = false) := Lib.hid (by unfold codedB; rw [decide_eq_false (by omega : ¬ 0 ≤ c.procs)]; simp)
   go_wp2_with fail
   go_ret
   exact ⟨by rw [HN.out]; rfl, HB.out⟩
  ·by_cases hl : c.labels < 0
   ·have HN : Hid (codedB c = false) := Lib.hid (by unfold codedB; rw [decide_eq_false (by omega : ¬ 0 ≤ c.labels)]; simp)
    go_wp2_with fail
    go_ret
    exact ⟨by rw [HN.out]; rfl, HB.out⟩
   ·have HC1 : Hid (codedB c = (c.ops.all (opOk c) && (placR c).2.2 && orderB c.ops && areasB c && namesB (placR c).1 (placR c).2.1 c.ops 0)) := Lib.hid (by unfold codedB; rw [decide_eq_true hq, decide_eq_true (by omega : 0 ≤ c.procs), decide_eq_true (by omega : 0 ≤ c.labels)]; rfl)
    have HPL : Hid (0 ≤ c.procs ∧ 0 ≤ c.labels) := Lib.hid (by omega)
    go_wp2_with fail
    refine (kinds_calls _).mono ?_
    rintro e w3 ⟨rfl, rfl⟩
    go_wp2_with (first | (refine wpList_store_table rfl 54 (.tmp 5) (.tmp 33) rfl (w2.alloc (.cells kindCells 54)) (w2.heap.size + 1) (by simp) kindCells Try.zeroCells54 54 rfl ?h5 ?h6 ?h1 ?h2 ?h3 ?_; (case h1 => kernel_rfl); (case h2 => kernel_rfl); (case h3 => kernel_rfl); (case h5 => rfl); (case h6 => kernel_rfl)))
    have HB1 : Hid (Below w.heap.size w ((w2.alloc (.cells kindCells 54)).alloc (.cells kindCells 54))) := Lib.hid ((HB.out.alloc HB.out.size _).alloc (HB.out.alloc HB.out.size _).size _)
    have HX1 : Hid (BoxAt ((w2.alloc (.cells kindCells 54)).alloc (.cells kindCells 54)) w.heap.size (codCells c ⟨a1, b1, a2, b2, a3, b3⟩) 26) := Lib.hid (blk_alloc (blk_alloc HX.out _) _)
    have HK1 : Hid (BoxAt ((w2.alloc (.cells kindCells 54)).alloc (.cells kindCells 54)) (w2.heap.size + 1) kindCells 54) := Lib.hid (by have := heap_alloc_new (w2.alloc (.cells kindCells 54)) (.cells kindCells 54); simpa [BoxAt] using this)
    have HO := Lib.hid OK.out.o
    clear HB HX hb2 hb4 hb5
    generalize w2.heap.size + 1 = B at *
    go_loopw [2, 37] (fun v2 i wr => ∃ k : Nat, k ≤ c.ops.length ∧ v2 = .bool false ∧ i = .int .i64 k ∧ Hid (∀ j, j < k → opOk c (opAt c.ops j) = true) ∧ Hid (BoxAt wr w.heap.size (codCells c ⟨a1, b1, a2, b2, a3, b3⟩) 26) ∧ Hid (BoxAt wr B kindCells 54) ∧ Hid (Below w.heap.size w wr)) (fun _ i _ => c.ops.length - (intOf i).toNat)
    case atStart => exact ⟨0, by omega, rfl, rfl, Lib.hid (fun j hj => absurd hj (by omega)), HX1, HK1, HB1⟩
    case round =>
     clear HB1 HX1 HK1
     obtain ⟨k, hk, rfl, rfl, HA, HX, HK, HB⟩ := hrel
     by_cases hlt : k < c.ops.length
     ·obtain ⟨o, ho⟩ : ∃ o, o = opAt c.ops k := ⟨_, rfl⟩
      obtain ⟨ad, had, hx0, hx1, hx2⟩ := op_cells (H.out.below HB.out).h2 k hlt o ho 0 rfl
      have hxx0 : wr.cell? (ad.add (k * 3)) = some (.int .i64 o.f0) := hx0
      have hxx1 : wr.cell? ⟨(ad.add (k * 3)).block, (ad.add (k * 3)).off + 1, none⟩ = some (.int .i64 o.f1) := hx1
      have hxx2 : wr.cell? ⟨(ad.add (k * 3)).block, (ad.add (k * 3)).off + 2, none⟩ = some (.int .i64 o.f2) := hx2
      clear hx0 hx1 hx2
      have HO1 := Lib.hid ho
      clear ho
      change a2 = some ad at had
      subst had
      have hOO := HO.out
      have hy0 : (wr.alloc (.cells #[.int .i64 o.f0, .int .i64 o.f1, .int .i64 o.f2] 35)).cell? ⟨wr.heap.size, 0, none⟩ = some (.int .i64 o.f0) := (blk_cell (heap_alloc_new wr _) 0).trans rfl
      have hy1 : (wr.alloc (.cells #[.int .i64 o.f0, .int .i64 o.f1, .int .i64 o.f2] 35)).cell? ⟨wr.heap.size, 1, none⟩ = some (.int .i64 o.f1) := (blk_cell (heap_alloc_new wr _) 1).trans rfl
      have hy2 : (wr.alloc (.cells #[.int .i64 o.f0, .int .i64 o.f1, .int .i64 o.f2] 35)).cell? ⟨wr.heap.size, 2, none⟩ = some (.int .i64 o.f2) := (blk_cell (heap_alloc_new wr _) 2).trans rfl
      have hHX := blk_alloc HX.out (.cells #[.int .i64 o.f0, .int .i64 o.f1, .int .i64 o.f2] 35)
      have hHK := blk_alloc HK.out (.cells #[.int .i64 o.f0, .int .i64 o.f1, .int .i64 o.f2] 35)
      have HB2 := Lib.hid (HB.out.alloc HB.out.size (.cells #[.int .i64 o.f0, .int .i64 o.f1, .int .i64 o.f2] 35))
      by_cases h1 : 1 ≤ o.f0
      ·by_cases h31 : o.f0 < 31
       ·have hlo : decide (o.f0 < 1) = false := decide_eq_false (by omega)
        have hhi : decide (o.f0 ≥ 31) = false := decide_eq_false (by omega)
        obtain ⟨N, hN⟩ : ∃ N : Nat, o.f0 = N := ⟨o.f0.toNat, by omega⟩
        have hN31 : N < 31 := by omega
        have hN31i : (N : Int) < 31 := by omega
        have h1n : 1 ≤ N := by omega
        have HN0 := Lib.hid hN
        rw [hN] at hxx0 hy0 hy1 hy2 hlo hhi hHX hHK HB2
        clear hN h1 h31
        have HHX := Lib.hid hHX
        have HHK := Lib.hid hHK
        have HSZ : Hid (wr.heap.size < (wr.alloc (.cells #[.int .i64 N, .int .i64 o.f1, .int .i64 o.f2] 35)).heap.size) := Lib.hid (by simp)
        clear hHX hHK
        go_wp2_with fail
        generalize (wr.alloc (.cells #[.int .i64 N, .int .i64 o.f1, .int .i64 o.f2] 35)) = wq at *
        have HWQ : BoxAt wq w.heap.size (codCells c ⟨a1, b1, some ad, b2, a3, b3⟩) 26 := HHX.out
        obtain ⟨k0, k1, k2, k3⟩ := kindCell N hN31 wq B HHK.out
        have z0 : wq.cell? ⟨wr.heap.size, 0, none⟩ = some (.int .i64 N) := hy0
        have z1 : wq.cell? ⟨wr.heap.size, 1, none⟩ = some (.int .i64 o.f1) := hy1
        have z2 : wq.cell? ⟨wr.heap.size, 2, none⟩ = some (.int .i64 o.f2) := hy2
        have c0 : wq.cell? ⟨w.heap.size, 0, none⟩ = some (.string c.name) := (blk_cell HWQ 0).trans rfl
        have c1 : wq.cell? ⟨w.heap.size, 1, none⟩ = some (.slice a1 c.data.length b1) := (blk_cell HWQ 1).trans rfl
        have c2 : wq.cell? ⟨w.heap.size, 2, none⟩ = some (.slice (some ad) c.ops.length b2) := (blk_cell HWQ 2).trans rfl
        have c3 : wq.cell? ⟨w.heap.size, 3, none⟩ = some (.slice a3 c.gl.length b3) := (blk_cell HWQ 3).trans rfl
        have c4 : wq.cell? ⟨w.heap.size, 4, none⟩ = some (.int .i64 c.procs) := (blk_cell HWQ 4).trans rfl
        have c5 : wq.cell? ⟨w.heap.size, 5, none⟩ = some (.int .i64 c.labels) := (blk_cell HWQ 5).trans rfl
        go_still_tail 15, (by kernel_rfl)
        change wpList _ _ _ _ _ wq.drew
        have HHX2 : Hid (BoxAt wq.drew w.heap.size (codCells c ⟨a1, b1, some ad, b2, a3, b3⟩) 26) := Lib.hid HHX.out
        have HHK2 : Hid (BoxAt wq.drew B kindCells 54) := Lib.hid HHK.out
        have HB3 : Hid (Below w.heap.size w wq.drew) := Lib.hid HB2.out.drew
        clear k0 k1 k2 k3 z0 z1 z2 c0 c1 c2 c3 c4 c5 HWQ hy0 hy1 hy2 HHX HHK HB2
        generalize wq.drew = wd at *
        go_wp2_with fail
        have HV : Hid (opOk c (opAt c.ops k) = numbersB ⟨N, o.f1, o.f2⟩ c (kindAt N)) := Lib.hid (by rw [← HO1.out]; exact opOk_at c o N HN0.out h1n hN31i)
        refine (numbers_calls ⟨N, o.f1, o.f2⟩ c ⟨a1, b1, some ad, b2, a3, b3⟩ (kindAt N) _ (H.out.below HB3.out) OK.out.a.d).mono ?_
        rintro e w3 ⟨rfl, hb⟩
        have HB4 := Lib.hid (below_step HB3.out hb)
        have HX4 := Lib.hid (blk_below HHX2.out hb)
        have HK4 := Lib.hid (blk_below HHK2.out hb)
        clear hb
        cases hn : numbersB ⟨N, o.f1, o.f2⟩ c (kindAt N) with
        | true =>
         have HA2 : Hid (∀ j, j < k + 1 → opOk c (opAt c.ops j) = true) := Lib.hid (ops_next HA.out (HV.out.trans hn))
         clear hn
         go_wp2_with fail
         go_roundw
         case rel => exact ⟨k + 1, by omega, rfl, by go_num, HA2, HX4, HK4, HB4⟩
         case measure => simp [intOf]; omega
        | false =>
         have HN : Hid (codedB c = false) := Lib.hid (by rw [HC1.out, ops_bad c k hlt (HV.out.trans hn)]; rfl)
         clear hn
         go_wp2_with fail
         go_ret
         exact ⟨by rw [HN.out]; rfl, HB4.out⟩
       ·have hlo : decide (o.f0 < 1) = false := decide_eq_false (by omega)
        have hhi : decide (o.f0 ≥ 31) = true := decide_eq_true (by omega)
        have HN : Hid (codedB c = false) := Lib.hid (by rw [HC1.out, ops_bad c k hlt (by rw [← HO1.out, opOk, decide_eq_false h31]; simp)]; rfl)
        clear hHX hHK h1 h31
        go_wp2_with fail
        generalize (wr.alloc (.cells #[.int .i64 o.f0, .int .i64 o.f1, .int .i64 o.f2] 35)) = wq at *
        go_quiet (fail)
        go_wp2_with fail
        go_ret
        exact ⟨by rw [HN.out]; rfl, below_drewN HB2.out _⟩
      ·have hlo : decide (o.f0 < 1) = true := decide_eq_true (by omega)
       have HN : Hid (codedB c = false) := Lib.hid (by rw [HC1.out, ops_bad c k hlt (by rw [← HO1.out, opOk, decide_eq_false h1]; simp)]; rfl)
       clear hHX hHK h1
       go_wp2_with fail
       generalize (wr.alloc (.cells #[.int .i64 o.f0, .int .i64 o.f1, .int .i64 o.f2] 35)) = wq at *
       go_quiet (fail)
       go_wp2_with fail
       go_ret
       exact ⟨by rw [HN.out]; rfl, below_drewN HB2.out _⟩
     ·obtain rfl : k = c.ops.length := by omega
      have HALL : Hid (c.ops.all (opOk c) = true) := Lib.hid (ops_all HA.out)
      obtain ⟨L, hL⟩ : ∃ L : Nat, c.labels = L := ⟨c.labels.toNat, by have := HPL.out; omega⟩
      have HL := Lib.hid hL
      have hf0 : wr.cell? ⟨w.heap.size, 0, none⟩ = some (.string c.name) := (blk_cell HX.out 0).trans rfl
      have hf1 : wr.cell? ⟨w.heap.size, 1, none⟩ = some (.slice a1 c.data.length b1) := (blk_cell HX.out 1).trans rfl
      have hf2 : wr.cell? ⟨w.heap.size, 2, none⟩ = some (.slice a2 c.ops.length b2) := (blk_cell HX.out 2).trans rfl
      have hf3 : wr.cell? ⟨w.heap.size, 3, none⟩ = some (.slice a3 c.gl.length b3) := (blk_cell HX.out 3).trans rfl
      have hf4 : wr.cell? ⟨w.heap.size, 4, none⟩ = some (.int .i64 c.procs) := (blk_cell HX.out 4).trans rfl
      have hf5 : wr.cell? ⟨w.heap.size, 5, none⟩ = some (.int .i64 c.labels) := (blk_cell HX.out 5).trans rfl
      clear hL HA
      go_wp2_with fail
      refine (places_calls c ⟨a1, b1, a2, b2, a3, b3⟩ _ (H.out.below HB.out) L (by have := OK.out.l; have := HL.out; omega) HL.out HO.out (labels_ok HALL.out HL.out)).mono ?_
      rintro e w3 ⟨A1, d1, A2, d2, rfl, hA1, hd1, hA2, hd2, hb⟩
      have HB3 := Lib.hid (below_step HB.out hb)
      have HX3 := Lib.hid (blk_below HX.out hb)
      have HR1 := Lib.hid hA1
      have HR2 := Lib.hid hA2
      have HD := Lib.hid (And.intro hd1 hd2)
      clear hb hA1 hA2 hd1 hd2 hf0 hf1 hf2 hf3 hf4 hf5 HX HB HK
      have hf0 : w3.cell? ⟨w.heap.size, 0, none⟩ = some (.string c.name) := (blk_cell HX3.out 0).trans rfl
      have hf1 : w3.cell? ⟨w.heap.size, 1, none⟩ = some (.slice a1 c.data.length b1) := (blk_cell HX3.out 1).trans rfl
      have hf2 : w3.cell? ⟨w.heap.size, 2, none⟩ = some (.slice a2 c.ops.length b2) := (blk_cell HX3.out 2).trans rfl
      have hf3 : w3.cell? ⟨w.heap.size, 3, none⟩ = some (.slice a3 c.gl.length b3) := (blk_cell HX3.out 3).trans rfl
      have hf4 : w3.cell? ⟨w.heap.size, 4, none⟩ = some (.int .i64 c.procs) := (blk_cell HX3.out 4).trans rfl
      have hf5 : w3.cell? ⟨w.heap.size, 5, none⟩ = some (.int .i64 c.labels) := (blk_cell HX3.out 5).trans rfl
      cases hpl : (placR c).2.2 with
      | false =>
       have HN : Hid (codedB c = false) := Lib.hid (by rw [HC1.out, hpl, Bool.and_false]; rfl)
       clear hpl
       go_wp2_with fail
       go_ret
       exact ⟨by rw [HN.out]; rfl, HB3.out⟩
      | true =>
       have HP := Lib.hid hpl
       clear hpl
       go_wp2_with fail
       refine (order_calls c.ops a2 b2 _ (H.out.below HB3.out).h2 H.out.l2 HO.out (switch_ok HALL.out)).mono ?_
       rintro e w4 ⟨rfl, m, rfl⟩
       cases hor : orderB c.ops with
       | false =>
        have HN : Hid (codedB c = false) := Lib.hid (by rw [HC1.out, hor, Bool.and_false]; rfl)
        clear hor
        go_wp2_with fail
        go_ret
        exact ⟨by rw [HN.out]; rfl, below_drewN HB3.out m⟩
       | true =>
        have HOR := Lib.hid hor
        clear hor
        go_wp2_with fail
        refine (areas_calls c ⟨a1, b1, a2, b2, a3, b3⟩ _ (H.out.below (below_drewN HB3.out m)) OK.out.a).mono ?_
        rintro e w5 ⟨rfl, hb⟩
        have HB5 := Lib.hid (below_step (below_drewN HB3.out m) hb)
        have HX5 := Lib.hid (blk_below (show (w3.drewN m).heap[w.heap.size]? = _ from HX3.out) hb)
        have HR1 := Lib.hid (Kd.C_below HR1.out ((below_drewN (Below.refl _ _) m).trans (show Below w3.heap.size (w3.drewN m) w5 from hb)))
        have HR2 := Lib.hid (Kd.C_below HR2.out ((below_drewN (Below.refl _ _) m).trans (show Below w3.heap.size (w3.drewN m) w5 from hb)))
        clear hb hf0 hf1 hf2 hf3 hf4 hf5
        have hf2 : w5.cell? ⟨w.heap.size, 2, none⟩ = some (.slice a2 c.ops.length b2) := (blk_cell HX5.out 2).trans rfl
        cases har : areasB c with
        | false =>
         have HN : Hid (codedB c = false) := Lib.hid (by rw [HC1.out, har, Bool.and_false]; rfl)
         clear har
         go_wp2_with fail
         go_ret
         exact ⟨by rw [HN.out]; rfl, HB5.out⟩
        | true =>
         have HC2 : Hid (codedB c = namesB (placR c).1 (placR c).2.1 c.ops 0) := Lib.hid (by rw [HC1.out, HALL.out, HP.out, HOR.out, har]; rfl)
         clear har
         go_wp2_with fail
         have HLEN : Hid ((placR c).1.length = L + 1 ∧ (placR c).2.1.length = L + 1) := Lib.hid (placR_len HP.out HL.out)
         have HLL := Lib.hid HL.out
         clear HL
         go_loopw [2, 11, 82] (fun v2 v11 i wr => ∃ (k : Nat) (p : Int), k ≤ c.ops.length ∧ v2 = .bool false ∧ v11 = .int .i64 p ∧ i = .int .i64 k ∧ Hid (namesB (placR c).1 (placR c).2.1 c.ops 0 = namesB (placR c).1 (placR c).2.1 (c.ops.drop k) p) ∧ Hid (BoxAt wr w.heap.size (codCells c ⟨a1, b1, a2, b2, a3, b3⟩) 26) ∧ Hid (Below w.heap.size w wr) ∧ Hid (Below w5.heap.size w5 wr)) (fun _ _ i _ => c.ops.length - (intOf i).toNat)
         case atStart => exact ⟨0, 0, by omega, rfl, rfl, rfl, Lib.hid rfl, HX5, HB5, Lib.hid (Below.refl _ _)⟩
         case round =>
          obtain ⟨k, p, hk, rfl, rfl, rfl, HA, HX, HB, HS⟩ := hrel
          by_cases hlt : k < c.ops.length
          ·have HDR := Lib.hid (drop_opAt c.ops k hlt)
           have HNL : Hid (namedI (opAt c.ops k) ≤ c.labels) := Lib.hid (named_ok HPL.out.2 (List.all_eq_true.1 HALL.out _ (by rw [op_get _ _ hlt]; exact List.getElem_mem hlt)))
           obtain ⟨ad, had, hx0, hx1, hx2⟩ := op_cells (H.out.below HB.out).h2 k hlt _ rfl 0 rfl
           generalize opAt c.ops k = o at *
           change a2 = some ad at had
           subst had
           have hxx0 : wr.cell? (ad.add (k * 3)) = some (.int .i64 o.f0) := hx0
           have hxx1 : wr.cell? ⟨(ad.add (k * 3)).block, (ad.add (k * 3)).off + 1, none⟩ = some (.int .i64 o.f1) := hx1
           have hxx2 : wr.cell? ⟨(ad.add (k * 3)).block, (ad.add (k * 3)).off + 2, none⟩ = some (.int .i64 o.f2) := hx2
           clear hx0 hx1 hx2
           have hOO := HO.out
           have hy0 : (wr.alloc (.cells #[.int .i64 o.f0, .int .i64 o.f1, .int .i64 o.f2] 35)).cell? ⟨wr.heap.size, 0, none⟩ = some (.int .i64 o.f0) := (blk_cell (heap_alloc_new wr _) 0).trans rfl
           have hy1 : (wr.alloc (.cells #[.int .i64 o.f0, .int .i64 o.f1, .int .i64 o.f2] 35)).cell? ⟨wr.heap.size, 1, none⟩ = some (.int .i64 o.f1) := (blk_cell (heap_alloc_new wr _) 1).trans rfl
           have hy2 : (wr.alloc (.cells #[.int .i64 o.f0, .int .i64 o.f1, .int .i64 o.f2] 35)).cell? ⟨wr.heap.size, 2, none⟩ = some (.int .i64 o.f2) := (blk_cell (heap_alloc_new wr _) 2).trans rfl
           have HX7 := Lib.hid (blk_alloc HX.out (.cells #[.int .i64 o.f0, .int .i64 o.f1, .int .i64 o.f2] 35))
           have HB7 := Lib.hid (HB.out.alloc HB.out.size (.cells #[.int .i64 o.f0, .int .i64 o.f1, .int .i64 o.f2] 35))
           have HS7 : Hid (Below w5.heap.size w5 (wr.alloc (.cells #[.int .i64 o.f0, .int .i64 o.f1, .int .i64 o.f2] 35))) := Lib.hid (HS.out.alloc HS.out.size _)
           clear HX HB HS
           by_cases h24 : o.f0 = 24
           ·have hb24 : (o.f0 == 24) = true := beq_iff_eq.2 h24
            have HPP : Hid ((if o.f0 = 24 then o.f1 else p) = o.f1) := Lib.hid (if_pos h24)
            clear h24
            go_wp2_with fail
            refine (named_calls o _).mono ?_
            rintro e w6 ⟨rfl, hb⟩
            have HB8 := Lib.hid (below_step HB7.out hb)
            have HX8 := Lib.hid (blk_below HX7.out hb)
            have HS8 : Hid (Below w5.heap.size w5 w6) := Lib.hid (below_step HS7.out hb)
            clear hb
            by_cases hn : namedI o > 0
            ·have hle := HNL.out
             have hnl : namedI o < (placR c).2.1.length := by have := HLEN.out.2; have := HLL.out; omega
             have hnl1 : namedI o < (placR c).1.length := by have := HLEN.out.1; have := HLL.out; omega
             obtain ⟨e1, he1, q1⟩ := Kd.at_int (Kd.C_below HR1.out HS8.out) (namedI o) (by omega) (by omega)
             obtain ⟨e2, he2, q2⟩ := Kd.at_int (Kd.C_below HR2.out HS8.out) (namedI o) (by omega) (by omega)
             subst he1
             subst he2
             have HNN := Lib.hid hn
             by_cases hof : rd (placR c).2.1 (namedI o) = o.f1
             ·have hofb : (rd (placR c).2.1 (namedI o) != o.f1) = false := bne_eq_false_iff_eq.2 hof
              by_cases hat : rd (placR c).1 (namedI o) = 0
              ·have hatb : (rd (placR c).1 (namedI o) == 0) = true := beq_iff_eq.2 hat
               have HN : Hid (codedB c = false) := Lib.hid (by rw [HC2.out, HA.out, HDR.out, namesB, if_pos ⟨HNN.out, .inr hat⟩])
               go_wp2_with fail
               go_ret
               exact ⟨by rw [HN.out]; rfl, HB8.out⟩
              ·have hatb : (rd (placR c).1 (namedI o) == 0) = false := beq_eq_false_iff_ne.2 hat
               have HA3 := Lib.hid (HA.out.trans (by rw [HDR.out, namesB, if_neg (fun e => e.2.elim (fun x => x (by rw [HPP.out]; exact hof)) hat), HPP.out]))
               go_wp2_with fail
               go_roundw
               case rel => exact ⟨k + 1, o.f1, by omega, rfl, rfl, by go_num, HA3, HX8, HB8, HS8⟩
               case measure => simp [intOf]; omega
             ·have hofb : (rd (placR c).2.1 (namedI o) != o.f1) = true := bne_iff_ne.2 hof
              have HN : Hid (codedB c = false) := Lib.hid (by rw [HC2.out, HA.out, HDR.out, namesB, if_pos ⟨HNN.out, .inl (by rw [HPP.out]; exact hof)⟩])
              go_wp2_with fail
              go_ret
              exact ⟨by rw [HN.out]; rfl, HB8.out⟩
            ·have HA3 := Lib.hid (HA.out.trans (by rw [HDR.out, namesB, if_neg (fun e => hn e.1), HPP.out]))
             go_wp2_with fail
             go_roundw
             case rel => exact ⟨k + 1, o.f1, by omega, rfl, rfl, by go_num, HA3, HX8, HB8, HS8⟩
             case measure => simp [intOf]; omega
           ·have hb24 : (o.f0 == 24) = false := beq_eq_false_iff_ne.2 h24
            have HPP : Hid ((if o.f0 = 24 then o.f1 else p) = p) := Lib.hid (if_neg h24)
            clear h24
            go_wp2_with fail
            refine (named_calls o _).mono ?_
            rintro e w6 ⟨rfl, hb⟩
            have HB8 := Lib.hid (below_step HB7.out hb)
            have HX8 := Lib.hid (blk_below HX7.out hb)
            have HS8 : Hid (Below w5.heap.size w5 w6) := Lib.hid (below_step HS7.out hb)
            clear hb
            by_cases hn : namedI o > 0
            ·have hle := HNL.out
             have hnl : namedI o < (placR c).2.1.length := by have := HLEN.out.2; have := HLL.out; omega
             have hnl1 : namedI o < (placR c).1.length := by have := HLEN.out.1; have := HLL.out; omega
             obtain ⟨e1, he1, q1⟩ := Kd.at_int (Kd.C_below HR1.out HS8.out) (namedI o) (by omega) (by omega)
             obtain ⟨e2, he2, q2⟩ := Kd.at_int (Kd.C_below HR2.out HS8.out) (namedI o) (by omega) (by omega)
             subst he1
             subst he2
             have HNN := Lib.hid hn
             by_cases hof : rd (placR c).2.1 (namedI o) = p
             ·have hofb : (rd (placR c).2.1 (namedI o) != p) = false := bne_eq_false_iff_eq.2 hof
              by_cases hat : rd (placR c).1 (namedI o) = 0
              ·have hatb : (rd (placR c).1 (namedI o) == 0) = true := beq_iff_eq.2 hat
               have HN : Hid (codedB c = false) := Lib.hid (by rw [HC2.out, HA.out, HDR.out, namesB, if_pos ⟨HNN.out, .inr hat⟩])
               go_wp2_with fail
               go_ret
               exact ⟨by rw [HN.out]; rfl, HB8.out⟩
              ·have hatb : (rd (placR c).1 (namedI o) == 0) = false := beq_eq_false_iff_ne.2 hat
               have HA3 := Lib.hid (HA.out.trans (by rw [HDR.out, namesB, if_neg (fun e => e.2.elim (fun x => x (by rw [HPP.out]; exact hof)) hat), HPP.out]))
               go_wp2_with fail
               go_roundw
               case rel => exact ⟨k + 1, p, by omega, rfl, rfl, by go_num, HA3, HX8, HB8, HS8⟩
               case measure => simp [intOf]; omega
             ·have hofb : (rd (placR c).2.1 (namedI o) != p) = true := bne_iff_ne.2 hof
              have HN : Hid (codedB c = false) := Lib.hid (by rw [HC2.out, HA.out, HDR.out, namesB, if_pos ⟨HNN.out, .inl (by rw [HPP.out]; exact hof)⟩])
              go_wp2_with fail
              go_ret
              exact ⟨by rw [HN.out]; rfl, HB8.out⟩
            ·have HA3 := Lib.hid (HA.out.trans (by rw [HDR.out, namesB, if_neg (fun e => hn e.1), HPP.out]))
             go_wp2_with fail
             go_roundw
             case rel => exact ⟨k + 1, p, by omega, rfl, rfl, by go_num, HA3, HX8, HB8, HS8⟩
             case measure => simp [intOf]; omega
          ·obtain rfl : k = c.ops.length := by omega
           have HN : Hid (codedB c = true) := Lib.hid (by rw [HC2.out, HA.out, List.drop_length, namesB])
           go_wp2_with fail
           go_ret
           exact ⟨by rw [HN.out]; rfl, HB.out⟩
 ·have hqb : ((quoteR c.name).2 != 0) = true := bne_iff_ne.2 hq
  have HN : Hid (codedB c = false) := Lib.hid (by unfold codedB; rw [decide_eq_false hq]; rfl)
  clear hq
  go_wp2_with fail
  go_ret
  exact ⟨by rw [HN.out]; rfl, HB.out⟩
end Go.Proofs.Ytkmcanknbdaliaa.Lx
